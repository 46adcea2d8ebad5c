/- celled; a step of a law. -/
import Derived.Test.YtneppenmhbjfkaaArE
namespace Go.Proofs.Ytneppenmhbjfkaa.Ar
open Go Go.RowKit Go.Proofs.Ytneppenmhbjfkaa.Hp
set_option linter.unusedVariables false
set_option linter.unusedSimpArgs false

/-- What a law has made itself is all that a call through a port turns. -/
theorem Fr.act {w0 w w' : World} {p a c : Nat} {lv : Value} {B : Nat} {s : AS} (h : Fr (fun _ => False) w0 w) (hA : IsA B w a c lv s) (hB : w0.heap.size ≤ B) (ha : w0.heap.size ≤ a) (hc : w0.heap.size ≤ c) (hp : w0.heap.size ≤ p)
    (h2 : Fr (fun k => k = a ∨ k = p ∨ k = c ∨ lv.ownBlock = some k) w w') : Fr (fun _ => False) w0 w' :=
  h.then h2 fun k hk hs => by
    rcases hs with e | e | e | e
    · omega
    · omega
    · omega
    · have := (hA.log.lt k e).1
      omega

def cel0 : AS := ⟨List.replicate 2 0, [], true, 0, 0⟩
def cel1 : AS := ⟨[0, 6], [⟨3, 5, 1, 0, 6, 0, 6⟩], true, 1, 0⟩
def cel2 : AS := ⟨[0, 6], [⟨3, 5, 1, 0, 6, 0, 6⟩], true, 1, 1⟩
theorem cel_1 : AS.acc cel0 true 3 5 1 0 6 = (cel1, 0) := by
  have h : bits BinOp.or IntKind.u64 0 6 = 6 := by decide
  simp [AS.acc, AS.has, AS.done, AS.fault, cel0, cel1, leftOf, h, wrap64, List.replicate]
theorem cel_2 : AS.acc cel1 false 3 5 1 0 1 = (cel2, 0) := by
  simp [AS.acc, AS.has, AS.done, AS.fault, cel1, cel2, wrap64]

set_option maxHeartbeats 4000000 in
theorem celled (w : World) : Calls Try.prog 9 #[] w fun e w' => e = .returned (.bool true) ∧ Fr (fun _ => False) w w' := by
  have e1 : (0 : Nat) ≤ 0 := Nat.le_refl _
  have HF : Fr (fun _ => False) w w := Fr.refl _ w
  go_enter Try.func9, Try.ntmps9
  go_wp2_with (first
    | (go_at_call 10; refine (new_ w.heap.size w 2 true (by decide) (by decide)).mono ?_; rintro e w1 ⟨a, c, rfl, hA, hF, ha, hc⟩; replace HF := HF.trans hF; clear hF)
    | (go_at_call 12; refine (port _ a 3 (by decide) (by decide)).mono ?_; rintro e w2 ⟨p, rfl, hP, hF, hp⟩; replace hA := hA.fr hF id id (fun _ _ => id); replace hp := Nat.le_trans HF.size hp; replace HF := HF.trans hF; clear hF)
    | (go_at_call 13; refine (grant _ p a 3 false hP).mono ?_; rintro e w3 ⟨rfl, hP2, hF⟩; (have hA2 := hA.fr hF (hA.ap hP) (hA.cp hP) (fun k hk e => hA.lp hP (hk.trans (congrArg some e)))); replace HF := HF.then hF (fun k hk e => by omega); clear hF hA hP)
    | (go_at_call 21; (first | (refine (mOr w.heap.size _ p a c _ cel0 3 1 6 true hA2 hP2 HF.size (by decide)).mono ?_; rintro e w4 ⟨he, lv3, hA3, hP3, hF, -⟩; rw [cel_1] at he hA3; subst he; replace HF := Fr.act HF hA2 (Nat.le_refl _) ha hc hp hF; clear hF hA2 hP2) | (refine (mOr w.heap.size _ p a c _ cel1 3 1 1 false hA3 hP3 HF.size (by decide)).mono ?_; rintro e w5 ⟨he, lv4, hA4, hP4, hF, -⟩; rw [cel_2] at he hA4; subst he; replace HF := Fr.act HF hA3 (Nat.le_refl _) ha hc hp hF; clear hF hA3 hP3)))
    | (go_at_call 27; refine (mPeek w.heap.size _ a c _ cel2 1 hA4 rfl).mono ?_; rintro e w6 ⟨he, n, rfl⟩; (have he2 : e = .returned (.tuple #[.int .u64 6, .int .i64 0]) := he); clear he; subst he2; (have hA5 := hA4.fr ((Fr.refl (fun _ => False) _).drewN n) id id (fun _ _ => id)); replace HF := HF.drewN n; clear hA4)
    | (go_at_call 18; refine (mCount w.heap.size _ a c _ cel2 hA5).mono ?_; rintro e w7 ⟨he, rfl⟩; (have he2 : e = .returned (.int .i64 1) := he); clear he; subst he2)
    | (go_at_call 17; refine (mFaults w.heap.size _ a c _ cel2 hA5).mono ?_; rintro e w7 ⟨he, rfl⟩; (have he2 : e = .returned (.int .i64 1) := he); clear he; subst he2))
  go_ret
  exact ⟨rfl, HF⟩
end Go.Proofs.Ytneppenmhbjfkaa.Ar

/- Rounds enough: from some number of rounds on a printed function answers r. And small laws on wraps. -/
import Derived.RowKit
import Derived.OpenShut
namespace Go.Proofs.Ytdcikbhfoplkmaa.Eo
open Go Go.RowKit
set_option linter.unusedVariables false
set_option linter.unusedSimpArgs false

def Eo {α : Type} (g : Nat → Option α) (r : α) : Prop := ∃ K, ∀ k, K ≤ k → g k = some r

theorem Eo.of {α : Type} {g : Nat → Option α} {r : α} (h : ∀ k, g k = some r) : Eo g r := ⟨0, fun k _ => h k⟩

theorem Eo.step {α : Type} {f g : Nat → Option α} {r : α} (hg : Eo g r) (h : ∀ k, g k = some r → f (k + 1) = some r) : Eo f r := by
  obtain ⟨K, hK⟩ := hg
  refine ⟨K + 1, fun k hk => ?_⟩
  obtain ⟨m, rfl⟩ : ∃ m, k = m + 1 := ⟨k - 1, by omega⟩
  exact h m (hK m (by omega))

/-- One round, the body's own rounds being the same number. -/
theorem Eo.round {α : Type} {f g : Nat → Option α} {r : α} (hg : Eo g r) (h : ∀ k, f (k + 1) = g k) : Eo f r :=
  hg.step fun k e => (h k).trans e

theorem Eo.bind {α β : Type} {g : Nat → Option α} {a : α} {f : α → Nat → Option β} {r : β} (hg : Eo g a) (hf : Eo (f a) r) : Eo (fun k => (g k).bind fun x => f x k) r := by
  obtain ⟨K, hK⟩ := hg
  obtain ⟨M, hM⟩ := hf
  exact ⟨max K M, fun k hk => by
    show (g k).bind _ = _
    rw [hK k (by omega)]; exact hM k (by omega)⟩

theorem Eo.congr {α : Type} {f g : Nat → Option α} {r : α} (hg : Eo g r) (h : ∀ k, f k = g k) : Eo f r := by
  obtain ⟨K, hK⟩ := hg
  exact ⟨K, fun k hk => (h k).trans (hK k hk)⟩

theorem w64 {x : Int} (h0 : -9223372036854775808 ≤ x) (h1 : x ≤ 9223372036854775807) : wrap64 x = x := by
  unfold wrap64; omega

theorem u64w (x : Int) : IntKind.u64.wrap x = x % 18446744073709551616 := by
  simp [IntKind.wrap, IntKind.bits, IntKind.signed]

theorem u64i {x : Int} (h0 : 0 ≤ x) (h1 : x ≤ 18446744073709551615) : IntKind.u64.wrap x = x := by
  rw [u64w]; omega
end Go.Proofs.Ytdcikbhfoplkmaa.Eo

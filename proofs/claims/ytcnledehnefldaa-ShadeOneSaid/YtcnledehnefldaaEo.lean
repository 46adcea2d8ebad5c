/- Rounds enough: from some number of rounds on a printed function answers r. And small laws on wraps. -/
import Derived.RowKit
import Derived.OpenShut
namespace Go.Proofs.Ytcnledehnefldaa.Eo
open Go Go.RowKit
set_option linter.unusedVariables false
set_option linter.unusedSimpArgs false

def Eo {α : Type} (g : Nat → Option α) (r : α) : Prop := ∃ K, ∀ k, K ≤ k → g k = some r

theorem Eo.of {α : Type} {g : Nat → Option α} {r : α} (h : ∀ k, g k = some r) : Eo g r := ⟨0, fun k _ => h k⟩

theorem Eo.step {α : Type} {f g : Nat → Option α} {r : α} (hg : Eo g r) (h : ∀ k, g k = some r → f (k + 1) = some r) : Eo f r := by
  obtain ⟨K, hK⟩ := hg
  refine ⟨K + 1, fun k hk => ?_⟩
  obtain ⟨m, rfl⟩ : ∃ m, k = m + 1 := ⟨k - 1, by omega⟩
  exact h m (hK m (by omega))

/-- One round, the body's own rounds being the same number. -/
theorem Eo.round {α : Type} {f g : Nat → Option α} {r : α} (hg : Eo g r) (h : ∀ k, f (k + 1) = g k) : Eo f r :=
  hg.step fun k e => (h k).trans e

theorem Eo.bind {α β : Type} {g : Nat → Option α} {a : α} {f : α → Nat → Option β} {r : β} (hg : Eo g a) (hf : Eo (f a) r) : Eo (fun k => (g k).bind fun x => f x k) r := by
  obtain ⟨K, hK⟩ := hg
  obtain ⟨M, hM⟩ := hf
  exact ⟨max K M, fun k hk => by
    show (g k).bind _ = _
    rw [hK k (by omega)]; exact hM k (by omega)⟩

theorem Eo.bindc {α β : Type} {g : Option α} {a : α} {f : α → Nat → Option β} {r : β} (hg : g = some a) (hf : Eo (f a) r) : Eo (fun k => g.bind fun x => f x k) r := by
  subst hg; exact hf

theorem Eo.congr {α : Type} {f g : Nat → Option α} {r : α} (hg : Eo g r) (h : ∀ k, f k = g k) : Eo f r := by
  obtain ⟨K, hK⟩ := hg
  exact ⟨K, fun k hk => (h k).trans (hK k hk)⟩

theorem Eo.ite_pos {α : Type} {p : Prop} [Decidable p] {f g : Nat → Option α} {r : α} (hp : p) (h : Eo f r) : Eo (fun k => if p then f k else g k) r := h.congr fun k => if_pos hp
theorem Eo.ite_neg {α : Type} {p : Prop} [Decidable p] {f g : Nat → Option α} {r : α} (hp : ¬ p) (h : Eo g r) : Eo (fun k => if p then f k else g k) r := h.congr fun k => if_neg hp

theorem Eo.get {α : Type} {g : Nat → Option α} {r : α} (h : Eo g r) : ∃ k, g k = some r := let ⟨K, hK⟩ := h; ⟨K, hK K (Nat.le_refl _)⟩

theorem Eo.two {α β : Type} {f : Nat → Option α} {g : Nat → Option β} {a : α} {b : β} (hf : Eo f a) (hg : Eo g b) : ∃ k, f k = some a ∧ g k = some b := by
  obtain ⟨K, hK⟩ := hf
  obtain ⟨M, hM⟩ := hg
  exact ⟨max K M, hK _ (by omega), hM _ (by omega)⟩

theorem Eo.step1 {α β : Type} {f : Nat → Option β} {g : Nat → Option α} {a : α} {r : β} (hg : Eo g a) (h : ∀ k, g k = some a → f (k + 1) = some r) : Eo f r := by
  obtain ⟨K, hK⟩ := hg
  refine ⟨K + 1, fun k hk => ?_⟩
  obtain ⟨m, rfl⟩ : ∃ m, k = m + 1 := ⟨k - 1, by omega⟩
  exact h m (hK m (by omega))
theorem Eo.step2 {α β γ : Type} {f : Nat → Option γ} {g : Nat → Option α} {g' : Nat → Option β} {a : α} {b : β} {r : γ} (hg : Eo g a) (hg' : Eo g' b) (h : ∀ k, g k = some a → g' k = some b → f (k + 1) = some r) : Eo f r := by
  obtain ⟨K, hK⟩ := hg
  obtain ⟨M, hM⟩ := hg'
  refine ⟨max K M + 1, fun k hk => ?_⟩
  obtain ⟨m, rfl⟩ : ∃ m, k = m + 1 := ⟨k - 1, by omega⟩
  exact h m (hK m (by omega)) (hM m (by omega))
theorem Eo.step3 {α β γ δ : Type} {f : Nat → Option δ} {g : Nat → Option α} {g' : Nat → Option β} {g'' : Nat → Option γ} {a : α} {b : β} {c : γ} {r : δ} (hg : Eo g a) (hg' : Eo g' b) (hg'' : Eo g'' c) (h : ∀ k, g k = some a → g' k = some b → g'' k = some c → f (k + 1) = some r) : Eo f r :=
  by
  obtain ⟨K, hK⟩ := hg
  obtain ⟨M, hM⟩ := hg'
  obtain ⟨L, hL⟩ := hg''
  refine ⟨max (max K M) L + 1, fun k hk => ?_⟩
  obtain ⟨m, rfl⟩ : ∃ m, k = m + 1 := ⟨k - 1, by omega⟩
  exact h m (hK m (by omega)) (hM m (by omega)) (hL m (by omega))

theorem bnd {α β : Type} {o : Option α} {a : α} {f : α → Option β} {r : Option β} (h : o = some a) (h2 : f a = r) : o.bind f = r := by subst h; exact h2
theorem itp {α : Type} {c : Prop} [Decidable c] {x y r : α} (h : c) (h2 : x = r) : (if c then x else y) = r := by rw [if_pos h]; exact h2
theorem itn {α : Type} {c : Prop} [Decidable c] {x y r : α} (h : ¬ c) (h2 : y = r) : (if c then x else y) = r := by rw [if_neg h]; exact h2

theorem w64 {x : Int} (h0 : -9223372036854775808 ≤ x) (h1 : x ≤ 9223372036854775807) : wrap64 x = x := by
  unfold wrap64; omega

theorem u64w (x : Int) : IntKind.u64.wrap x = x % 18446744073709551616 := by
  simp [IntKind.wrap, IntKind.bits, IntKind.signed]

theorem u64i {x : Int} (h0 : 0 ≤ x) (h1 : x ≤ 18446744073709551615) : IntKind.u64.wrap x = x := by
  rw [u64w]; omega
end Go.Proofs.Ytcnledehnefldaa.Eo

/- Classes' cells in plain numbers: the chapter's words and beginnings. -/
import Derived.Test.YtjakjaohgndebaaDoorWpD
namespace Go.Proofs.YtjakjaohgndebaaDoor.Sz
open Go Go.RowKit Go.Proofs.YtjakjaohgndebaaDoor.PAll Go.Proofs.YtjakjaohgndebaaDoorW.PrintWords Go.Proofs.YtjakjaohgndebaaDoorW.PrintLast Go.Proofs.YtjakjaohgndebaaDoorW.PrintMore
open Go.Proofs.YtjakjaohgndebaaDoor.Eo Go.Proofs.YtjakjaohgndebaaDoor.Wd Go.Proofs.YtjakjaohgndebaaDoor.Bt Go.Proofs.YtjakjaohgndebaaDoor.Wp
set_option linter.unusedVariables false
set_option linter.unusedSimpArgs false
set_option linter.unusedSectionVars false

theorem mono_all {α : Type} {f : Nat → Option α} (hm : ∀ k, LeO (f k) (f (k + 1))) {K : Nat} {r : α} (h : f K = some r) : Eo f r := by
  refine ⟨K, fun k hk => ?_⟩
  obtain ⟨d, rfl⟩ : ∃ d, k = K + d := ⟨k - K, by omega⟩
  clear hk
  induction d with
  | zero => exact h
  | succ d ih => exact hm _ _ ih

theorem sized_eq : windrowlaw05_sized.f = some true := by decide +kernel

theorem red {m : Int} (hm : 0 < m) (hm2 : m ≤ 1000) (a : Int) : ∃ n : Nat, (n : Int) < m ∧ wrap64 (Int.tmod (IntKind.u64.wrap a) m) = n ∧ wrap64 (Int.tmod (IntKind.u64.wrap (n : Int)) m) = n := by
  have h0 : 0 ≤ IntKind.u64.wrap a := (W_wrap a).1
  have r0 : 0 ≤ IntKind.u64.wrap a % m := Int.emod_nonneg _ (by omega)
  have r1 : IntKind.u64.wrap a % m < m := Int.emod_lt_of_pos _ hm
  refine ⟨(IntKind.u64.wrap a % m).toNat, by omega, ?_, ?_⟩
  · rw [tm h0, w64 (by omega) (by omega)]; omega
  · rw [u64i (by omega) (by omega), tm (by omega), Int.emod_eq_of_lt (by omega) (by omega), w64 (by omega) (by omega)]

theorem known_cases {P : Int → Prop} (h : ∀ c : Fin 8, P ((c.1 : Nat) : Int)) {a : Int} (ha : 0 ≤ a ∧ a < 8) : P a := by
  obtain ⟨n, rfl⟩ := Int.eq_ofNat_of_zero_le ha.1
  exact h ⟨n, by omega⟩

theorem rwords_yes {a : Int} (ha : 0 ≤ a ∧ a < 8) : windrowref05_Words.f a = some (sz a, 0) :=
  known_cases (P := fun a => windrowref05_Words.f a = some (sz a, 0)) (by decide +kernel) ha

theorem rwords_no {a : Int} (ha : ¬ (0 ≤ a ∧ a < 8)) : windrowref05_Words.f a = some (0, 1) := by
  unfold windrowref05_Words.f
  refine bnd rfl ?_
  by_cases h : a < 0
  · exact itp h rfl
  · exact itn h (itp (show a ≥ ((8 : Nat) : Int) by omega) rfl)

/-- Where a class's cells begin. -/
def begs (c : Int) : List Int := (List.range (64 / (sz c).toNat)).map fun k => ((k * (sz c).toNat : Nat) : Int)

theorem begs_eo {a : Int} (ha : 0 ≤ a ∧ a < 8) : Eo (fun k => windrowref05_Begins.f k a) (begs a) :=
  known_cases (P := fun a => Eo (fun k => windrowref05_Begins.f k a) (begs a)) (fun c => mono_all (windrowref05_Begins.mono _) (K := 40) (by revert c; decide +kernel)) ha

theorem begs_no {a : Int} (ha : ¬ (0 ≤ a ∧ a < 8)) : Eo (fun k => windrowref05_Begins.f k a) [] := Eo.of fun k => by
  unfold windrowref05_Begins.f
  exact bnd (rwords_no ha) (itn (by simp) rfl)

theorem begs_len {a : Int} (ha : 0 ≤ a ∧ a < 8) : ((begs a).length : Int) = 64 / sz a :=
  known_cases (P := fun a => ((begs a).length : Int) = 64 / sz a) (by decide +kernel) ha

theorem sz_all {a : Int} (ha : 0 ≤ a ∧ a < 8) : 2 ≤ sz a ∧ sz a ≤ 32 :=
  known_cases (P := fun a => 2 ≤ sz a ∧ sz a ≤ 32) (by decide +kernel) ha

/-- The word of beginnings, bit by bit. -/
def st (a : Int) : Int := startT.getD a.toNat 0
theorem st_W {a : Int} (ha : 0 ≤ a ∧ a < 8) : W (st a) := known_cases (P := fun a => W (st a)) (fun c => by revert c; unfold W; decide +kernel) ha
theorem st_tb {a : Int} (ha : 0 ≤ a ∧ a < 8) {i : Nat} (hi : i < 64) : tb (st a) i = decide ((i : Int) ∈ begs a) :=
  known_cases (P := fun a => ∀ i : Fin 64, tb (st a) i.1 = decide ((i.1 : Int) ∈ begs a)) (by decide +kernel) ha ⟨i, hi⟩
theorem begs_bd {a : Int} (ha : 0 ≤ a ∧ a < 8) : ∀ x ∈ begs a, 0 ≤ x ∧ x + sz a ≤ 64 :=
  known_cases (P := fun a => ∀ x ∈ begs a, 0 ≤ x ∧ x + sz a ≤ 64) (by decide +kernel) ha

theorem starts_yes {a : Int} (ha : 0 ≤ a ∧ a < 8) : sizes_Starts.f a = some (st a, 0) := by unfold sizes_Starts.f; rw [if_pos ha]; rfl
theorem starts_no {a : Int} (ha : ¬ (0 ≤ a ∧ a < 8)) : sizes_Starts.f a = some (0, 1) := by unfold sizes_Starts.f; rw [if_neg ha]
end Go.Proofs.YtjakjaohgndebaaDoor.Sz

/- The bits of a class's first cells: decided, class by class. -/
import Derived.Test.YtddkockeeodklaaDoorTpLay
namespace Go.Proofs.YtddkockeeodklaaDoor.Pure
open Go Go.RowKit Go.Proofs.YtddkockeeodklaaDoor.PAll Go.Proofs.YtddkockeeodklaaDoorW.PrintWords Go.Proofs.YtddkockeeodklaaDoorW.PrintLast Go.Proofs.YtddkockeeodklaaDoorW.PrintMore
open Go.Proofs.YtddkockeeodklaaDoor.Eo Go.Proofs.YtddkockeeodklaaDoor.Lay
set_option linter.unusedVariables false
set_option linter.unusedSimpArgs false

theorem rdn (l : List Int) (j : Nat) : rd l (j : Int) = l.getD j 0 := by unfold rd; rw [Int.toNat_natCast]

/-- The bits of the first i cells of a class. -/
def al (c : Int) (i : Nat) : Int := (List.range i).foldl (fun (x : Int) (j : Nat) => Go.bits .or .u64 x (shl .u64 1 ((j : Int) * sz c))) 0
theorem al_succ (c : Int) (i : Nat) : al c (i + 1) = Go.bits .or .u64 (al c i) (shl .u64 1 ((i : Int) * sz c)) := by simp [al, List.range_succ]

theorem known_cases {P : Int → Prop} (h : ∀ c : Fin 8, P ((c.1 : Nat) : Int)) {a : Int} (ha : 0 ≤ a ∧ a < 8) : P a := by
  obtain ⟨n, rfl⟩ := Int.eq_ofNat_of_zero_le ha.1
  exact h ⟨n, by omega⟩

theorem first_al {c : Int} (hc : 0 ≤ c ∧ c < 8) {i : Nat} (hi : (i : Int) < 64 / sz c) (h32 : i < 32) : sizes_First.f c (al c i) 0 = some ((i : Int) * sz c) :=
  known_cases (P := fun c => ∀ i : Fin 32, ((i.1 : Nat) : Int) < 64 / sz c → sizes_First.f c (al c i.1) 0 = some (((i.1 : Nat) : Int) * sz c)) (by decide +kernel) hc ⟨i, h32⟩ hi
theorem room_al {c : Int} (hc : 0 ≤ c ∧ c < 8) : sizes_Room.f c (al c (64 / sz c).toNat) = some 0 :=
  known_cases (P := fun c => sizes_Room.f c (al c (64 / sz c).toNat) = some 0) (by decide +kernel) hc
theorem cell_at {c : Int} (hc : 0 ≤ c ∧ c < 8) {y : Nat} (hy : y < 64) (h : (y : Int) < 64 / sz c * sz c) : sizes_Cell.f c (y : Int) = some ((y : Int) / sz c * sz c) :=
  known_cases (P := fun c => ∀ y : Fin 64, ((y.1 : Nat) : Int) < 64 / sz c * sz c → sizes_Cell.f c ((y.1 : Nat) : Int) = some (((y.1 : Nat) : Int) / sz c * sz c)) (by decide +kernel) hc ⟨y, hy⟩ h
theorem sz_nat {c : Int} (hc : 0 ≤ c ∧ c < 8) : ∃ s m : Nat, sz c = s ∧ 64 / sz c = m ∧ 2 ≤ s ∧ s ≤ 32 ∧ 2 ≤ m ∧ m ≤ 32 ∧ m * s ≤ 64 :=
  known_cases (P := fun c => ∃ s m : Nat, sz c = s ∧ 64 / sz c = m ∧ 2 ≤ s ∧ s ≤ 32 ∧ 2 ≤ m ∧ m ≤ 32 ∧ m * s ≤ 64) (fun c => ⟨(sz c.1).toNat, (64 / sz c.1).toNat, by revert c; decide +kernel⟩) hc

end Go.Proofs.YtddkockeeodklaaDoor.Pure

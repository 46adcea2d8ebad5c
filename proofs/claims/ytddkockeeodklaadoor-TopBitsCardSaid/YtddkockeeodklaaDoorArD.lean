/- The other methods. -/
import Derived.Test.YtddkockeeodklaaDoorArC
namespace Go.Proofs.YtddkockeeodklaaDoor.Ar
open Go Go.RowKit Go.Proofs.YtddkockeeodklaaDoor.Hp
set_option linter.unusedVariables false
set_option linter.unusedSimpArgs false

theorem grant (w : World) (p a : Nat) (who : Int) (g : Bool) (hp : IsP w p a who g) :
    Calls Tryd.prog 7 #[.pointer (some ⟨p, 0, none⟩)] w fun e w' => e = .returned (.tuple #[]) ∧ IsP w' p a who true ∧ Fr (fun k => k = p) w w' := by
  obtain ⟨p2, q2⟩ := blk_cell hp 2 (v := .bool g) rfl
  have hE := blk_set hp 2 (.bool true)
  clear hp
  go_enter Tryd.func7, Tryd.ntmps7
  go_wp2
  go_end0
  exact ⟨rfl, by simpa [IsP] using hE, (Fr.refl _ w).setCell _ _ (.inl rfl)⟩
theorem grant_nil (w : World) : Calls Tryd.prog 7 #[.pointer none] w fun e w' => e = .returned (.tuple #[]) ∧ w' = w := by
  go_enter Tryd.func7, Tryd.ntmps7
  go_wp2
  go_end0
  exact ⟨rfl, rfl⟩

theorem mFaults (B : Nat) (w : World) (a c : Nat) (lv : Value) (s : AS) (h : IsA B w a c lv s) :
    Calls Tryd.prog 16 #[.pointer (some ⟨a, 0, none⟩)] w fun e w' => e = .returned (.int .i64 s.faults) ∧ w' = w := by
  obtain ⟨c0, f0⟩ := blk_cell h.blk 4 (v := .int .i64 s.faults) rfl
  clear h
  go_enter Tryd.func16, Tryd.ntmps16
  go_wp2
  go_ret
  exact ⟨rfl, rfl⟩
theorem mFaults_nil (w : World) : Calls Tryd.prog 16 #[.pointer none] w fun e w' => e = .returned (.int .i64 0) ∧ w' = w := by
  go_enter Tryd.func16, Tryd.ntmps16
  go_wp2
  go_ret
  exact ⟨rfl, rfl⟩
theorem mCells (B : Nat) (w : World) (a c : Nat) (lv : Value) (s : AS) (h : IsA B w a c lv s) :
    Calls Tryd.prog 17 #[.pointer (some ⟨a, 0, none⟩)] w fun e w' => e = .returned (.int .i64 s.cells.length) ∧ w' = w := by
  obtain ⟨c0, f0⟩ := blk_cell h.blk 0 (v := .slice (some ⟨c, 0, none⟩) s.cells.length s.cells.length) rfl
  clear h
  go_enter Tryd.func17, Tryd.ntmps17
  go_wp2
  go_ret
  exact ⟨rfl, rfl⟩
theorem mCells_nil (w : World) : Calls Tryd.prog 17 #[.pointer none] w fun e w' => e = .returned (.int .i64 0) ∧ w' = w := by
  go_enter Tryd.func17, Tryd.ntmps17
  go_wp2
  go_ret
  exact ⟨rfl, rfl⟩
end Go.Proofs.YtddkockeeodklaaDoor.Ar

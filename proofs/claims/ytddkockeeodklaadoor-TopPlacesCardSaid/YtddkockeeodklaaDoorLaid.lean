/- The row's list gives the two tables; a world that holds them, for the witness. -/
import Derived.Test.YtddkockeeodklaaDoorCards
import Derived.Test.YtddkockeeodklaaDoorTie
import Derived.Test.YtddkockeeodklaaDoorGivA
import Derived.WalkKit
import Derived.ProofKit
import Derived.OpenShut
import Derived.Deep.DeepHandedRow
import Derived.Lib.LaidTab
namespace Go.Proofs.YtddkockeeodklaaDoor.Laid
open Go.ChangeShapes Go.WideShapes Go.ChangeAt Go.RowKit
set_option linter.unusedVariables false

theorem own : ownKnob Tryd.prog.godebug = none := by kernel_rfl
theorem laidOut : laidOutB Tryd.prog = true := by kernel_rfl
theorem gTab : Tryd.prog.globalNamed "math/bits.deBruijn64tab" = some 1 := by kernel_rfl
theorem gTabType : (Tryd.prog.globals[1]?).map (·.type) = some 85 := by kernel_rfl
theorem gSize : Tryd.prog.globalNamed "windrow/sizes.sizeOf" = some 0 := by kernel_rfl
theorem gSizeType : (Tryd.prog.globals[0]?).map (·.type) = some 70 := by kernel_rfl
theorem cells85 : Tryd.prog.cellsOf 85 = 64 := by kernel_rfl
theorem cells70 : Tryd.prog.cellsOf 70 = 8 := by kernel_rfl
theorem cells5 : Tryd.prog.cellsOf 5 = 1 := by kernel_rfl
theorem cells3 : Tryd.prog.cellsOf 3 = 1 := by kernel_rfl

theorem laid_tail {P : Program} {x : String × DataW Unit} {r : List (String × DataW Unit)} {W : World} (h : laidMet P (x :: r) W) : laidMet P r W := by
  obtain ⟨ps, ⟨g, t, cs, fuel, p, q, h1, h2, h3, h4, h5, rfl⟩, hn, hc⟩ := h
  exact ⟨q, h5, (List.nodup_append.mp hn).2.1, fun b off hm => hc b off (List.mem_append.mpr (.inr hm))⟩

theorem table {W : World} (h : laidMetH Tryd.prog [("math/bits.deBruijn64tab", Rows.laid_math_bits_deBruijn64tab), ("windrow/sizes.sizeOf", Rows.laid_windrow_sizes_sizeOf)] W) : Lib.TabIs Tryd.prog W "math/bits.deBruijn64tab" .u8 PAll.tab :=
  Lib.tabIs_of_head (rest := [("windrow/sizes.sizeOf", Rows.laid_windrow_sizes_sizeOf)]) gTab gTabType Tryd.underlying85 Tryd.underlying5 cells5 cells85 h

theorem table2 {W : World} (h : laidMetH Tryd.prog [("math/bits.deBruijn64tab", Rows.laid_math_bits_deBruijn64tab), ("windrow/sizes.sizeOf", Rows.laid_windrow_sizes_sizeOf)] W) : Lib.TabIs Tryd.prog W "windrow/sizes.sizeOf" .i64 PAll.sizeT :=
  Lib.tabIs_of_head (rest := []) gSize gSizeType Tryd.underlying70 Tryd.underlying3 cells3 cells70 (laid_tail (x := ("math/bits.deBruijn64tab", Rows.laid_math_bits_deBruijn64tab)) h)

theorem laid {W : World} (h : laidMetH Tryd.prog [("math/bits.deBruijn64tab", Rows.laid_math_bits_deBruijn64tab), ("windrow/sizes.sizeOf", Rows.laid_windrow_sizes_sizeOf)] W) : PAll.LAID W :=
  ⟨fun i hi => (table h).cell gTab i hi, fun i hi => (table2 h).cell gSize i hi⟩

/-- A world for the witness: the settled one, the tables (blocks 0 and 1) holding what their initialisers lay. -/
noncomputable def laidWorld (os : Os) : World :=
  let put (cs : Array Value) : Obj → Obj := fun
    | .cells _ t frozen => .cells cs t frozen
    | o => o
  { World.holding Tryd.prog os ⟨#[], #[], []⟩ with heap := ((World.holding Tryd.prog os ⟨#[], #[], []⟩).heap.modify 0 (put (PAll.sizeT.map (Value.int .i64)).toArray)).modify 1 (put (PAll.tab.map (Value.int .u8)).toArray) }
end Go.Proofs.YtddkockeeodklaaDoor.Laid

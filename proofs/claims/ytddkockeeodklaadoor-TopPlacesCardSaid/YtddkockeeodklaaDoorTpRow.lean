/- TopPlaces, walked and reckoned: for whatever case of the type that the row names. -/
import Derived.Test.YtddkockeeodklaaDoorPureTopPlaces
import Derived.Test.YtddkockeeodklaaDoorRk
namespace Go.Proofs.YtddkockeeodklaaDoor.Tp
open Go Go.RowKit Go.Proofs.YtddkockeeodklaaDoor.PAll
open Go.Proofs.YtddkockeeodklaaDoorW.PrintWords (Kd)
set_option linter.unusedVariables false

abbrev d44 : Kd (Int × Int × Int × List Int) := Kd.pair (Kd.int .i64) (Kd.pair (Kd.int .i64) (Kd.pair (Kd.int .i64) (Kd.slice 3 (Kd.int .i64))))
theorem op44 : Rk.Opens d44 [.int .i64, .int .i64, .int .i64, .slice [.int .i64]] (fun x => (Lit.int .i64 x.1).wf = true ∧ (Lit.int .i64 x.2.1).wf = true ∧ (Lit.int .i64 x.2.2.1).wf = true ∧ x.2.2.2.length ≤ maxLen ∧ ∀ y ∈ x.2.2.2, (Lit.int .i64 y).wf = true) :=
  Rk.opens_pair (Rk.opens_int .i64) (Rk.opens_pair (Rk.opens_int .i64) (Rk.opens_pair (Rk.opens_int .i64) (Rk.opens_slice 3 (Rk.opens_int .i64))))
theorem places_row (cs : Array Value) (b : Int × Int × Int × List Int) (w : World) (hL : LAID w) (h : d44.K w b cs.toList) :
    Calls Tryd.prog 4 #[.agg cs] w fun e w' => e = .returned (.bool true) ∧ Below w.heap.size w w' := by
  obtain ⟨x, y, z, l⟩ := b
  obtain ⟨c1, c2, e1, e2, d1, d2, rfl, e3, f1, f2, rfl, e4, A, cp, rfl, hle, hC⟩ := h
  have e2' : c1 = [.int .i64 x] := e2
  have e3' : d1 = [.int .i64 y] := e3
  have e4' : f1 = [.int .i64 z] := e4
  subst e2' e3' e4'
  have : cs = #[.int .i64 x, .int .i64 y, .int .i64 z, .slice A l.length cp] := by
    apply Array.toList_inj.1
    rw [e1]
    rfl
  subst this
  obtain ⟨k, hk⟩ := Pure.TopPlaces x y z l
  exact windrowtop_TopPlaces.calls k x y z A cp l true w hC hle ⟨rfl⟩ ⟨hL⟩ hk
end Go.Proofs.YtddkockeeodklaaDoor.Tp

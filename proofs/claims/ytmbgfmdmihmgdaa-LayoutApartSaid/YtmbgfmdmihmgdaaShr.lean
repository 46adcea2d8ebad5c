/- Short ways to say what printed texts say often: a block behind draws, allocations and stores elsewhere; nothing below touched; an act written out. -/
import Derived.Test.YtmbgfmdmihmgdaaWLast
import Derived.Test.YtmbgfmdmihmgdaaWMore
import Derived.RowKit
import Derived.Below
namespace Go.Proofs.Ytmbgfmdmihmgdaa.PAll
open Go.RowKit Go.Proofs.YtmbgfmdmihmgdaaW.PrintWords Go.Proofs.YtmbgfmdmihmgdaaW.PrintLast Go.Proofs.YtmbgfmdmihmgdaaW.PrintMore
set_option linter.unusedVariables false

/-- A block as it was. -/
theorem pk {w W : World} {g : Nat} {o : Obj} (h : w.heap[g]? = some o)
    (k : w.heap[g]? = some o → W.heap[g]? = some o := by intro hpk_; (with_reducible repeat (first | refine blk_drewN ?_ _ | refine blk_drew ?_ | refine blk_alloc ?_ _ | refine blk_far ?_ (Aside0.out (by assumption)) _)); exact hpk_) : W.heap[g]? = some o := k h

/-- Below the base nothing changed. -/
theorem pb {w W0 W : World} (h : Below w.heap.size w W0)
    (k : Below w.heap.size w W0 → Below w.heap.size w W := by intro hpb_; repeat (first | (with_reducible first | exact hpb_ | apply below_alloc | apply pw_below_drewN | apply below_drew1 | refine below_set ?_ (Aside0.out (by assumption))) | exact hpb_)) : Below w.heap.size w W := k h

/-- The act written out. -/
theorem nm {P : Program} {md : Region.Mode} {ops : Array Oper} {Q : Exit → Act → World → Prop} {S : World → Prop} {ds : List Nat} {fuel : Nat} {l : Array Bool} {a a' : Act} {w : World} (h : wpAnyLast P md ops Q S ds fuel l a' w)
    (ha : a = a' := by first | (simp only [putAll, Act.put, List.setIfInBounds_toArray, List.set_cons_zero, List.set_cons_succ]; done) | (simp only [putAll, Act.put, List.setIfInBounds_toArray, List.set_cons_zero, List.set_cons_succ]; rfl)) : wpAnyLast P md ops Q S ds fuel l a w := norm_ ha h

theorem sa {α : Type} {xs : List α} {i : Nat} {x : α} : xs.toArray.setIfInBounds i x = (xs.set i x).toArray := List.setIfInBounds_toArray ..
theorem sb {α : Type} {xs : List α} {a b : α} : (a :: xs).set 0 b = b :: xs := List.set_cons_zero ..
theorem sc {α : Type} {n : Nat} {xs : List α} {a b : α} : (a :: xs).set (n + 1) b = a :: xs.set n b := List.set_cons_succ ..
end Go.Proofs.Ytmbgfmdmihmgdaa.PAll

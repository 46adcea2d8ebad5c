/- Short ways to say what printed texts say often: a block behind draws, allocations and stores elsewhere; nothing below touched; an act written out. -/
import Derived.Test.YtdcikbhfoplkmaaWLast
import Derived.Test.YtdcikbhfoplkmaaWMore
import Derived.RowKit
import Derived.Below
namespace Go.Proofs.Ytdcikbhfoplkmaa.PH
open Go.RowKit Go.Proofs.YtdcikbhfoplkmaaW.PrintWords Go.Proofs.YtdcikbhfoplkmaaW.PrintLast Go.Proofs.YtdcikbhfoplkmaaW.PrintMore
set_option linter.unusedVariables false

/-- A block as it was. -/
theorem pk {w W : World} {g : Nat} {o : Obj} (h : w.heap[g]? = some o)
    (k : w.heap[g]? = some o → W.heap[g]? = some o := by intro hpk_; (with_reducible repeat (first | refine blk_drewN ?_ _ | refine blk_drew ?_ | refine blk_alloc ?_ _ | refine blk_far ?_ (Aside0.out (by assumption)) _)); exact hpk_) : W.heap[g]? = some o := k h

/-- Below the base nothing changed. -/
theorem pb {w W0 W : World} (h : Below w.heap.size w W0)
    (k : Below w.heap.size w W0 → Below w.heap.size w W := by intro hpb_; repeat (first | (with_reducible first | exact hpb_ | apply below_alloc | apply pw_below_drewN | apply below_drew1 | refine below_set ?_ (Aside0.out (by assumption))) | exact hpb_)) : Below w.heap.size w W := k h

/-- A new block is none of the old ones. -/
theorem nl {w W : World} {g q : Nat} {o : Obj} (h : w.heap[g]? = some o) (hg : q = W.heap.size)
    (k : w.heap[g]? = some o → W.heap[g]? = some o := by intro hpk_; (with_reducible repeat (first | refine blk_drewN ?_ _ | refine blk_drew ?_ | refine blk_alloc ?_ _ | refine blk_far ?_ (Aside0.out (by assumption)) _)); exact hpk_) : g ≠ q := by
  rw [hg]; exact Nat.ne_of_lt (blk_lt (k h))
theorem ng {w W : World} {g q : Nat} {o : Obj} (h : w.heap[g]? = some o) (hg : q = W.heap.size)
    (k : w.heap[g]? = some o → W.heap[g]? = some o := by intro hpk_; (with_reducible repeat (first | refine blk_drewN ?_ _ | refine blk_drew ?_ | refine blk_alloc ?_ _ | refine blk_far ?_ (Aside0.out (by assumption)) _)); exact hpk_) : q ≠ g := by
  rw [hg]; exact Nat.ne_of_gt (blk_lt (k h))
/-- A block behind a call. -/
theorem bw {w W W2 : World} {g : Nat} {o : Obj} (h : w.heap[g]? = some o) (hb : Below W.heap.size W W2)
    (k : w.heap[g]? = some o → W.heap[g]? = some o := by intro hpk_; (with_reducible repeat (first | refine blk_drewN ?_ _ | refine blk_drew ?_ | refine blk_alloc ?_ _ | refine blk_far ?_ (Aside0.out (by assumption)) _)); exact hpk_) : W2.heap[g]? = some o := blk_below (k h) hb
/-- A new block lies above the base. -/
theorem sz {w W0 W : World} {q : Nat} (hg : q = W.heap.size) (h : Below w.heap.size w W0)
    (k : Below w.heap.size w W0 → Below w.heap.size w W := by intro hpb_; repeat (first | (with_reducible first | exact hpb_ | apply below_alloc | apply pw_below_drewN | apply below_drew1 | refine below_set ?_ (Aside0.out (by assumption))) | exact hpb_)) : w.heap.size ≤ q := by
  rw [hg]; exact below_size (k h)

/-- The act written out. -/
theorem nm {P : Program} {md : Region.Mode} {ops : Array Oper} {Q : Exit → Act → World → Prop} {S : World → Prop} {ds : List Nat} {fuel : Nat} {l : Array Bool} {a a' : Act} {w : World} (h : wpAnyLast P md ops Q S ds fuel l a' w)
    (ha : a = a' := by first | (simp only [putAll, Act.put, List.setIfInBounds_toArray, List.set_cons_zero, List.set_cons_succ]; done) | (simp only [putAll, Act.put, List.setIfInBounds_toArray, List.set_cons_zero, List.set_cons_succ]; rfl)) : wpAnyLast P md ops Q S ds fuel l a w := norm_ ha h

theorem sa {α : Type} {xs : List α} {i : Nat} {x : α} : xs.toArray.setIfInBounds i x = (xs.set i x).toArray := List.setIfInBounds_toArray ..
theorem sb {α : Type} {xs : List α} {a b : α} : (a :: xs).set 0 b = b :: xs := List.set_cons_zero ..
theorem sc {α : Type} {n : Nat} {xs : List α} {a b : α} : (a :: xs).set (n + 1) b = a :: xs.set n b := List.set_cons_succ ..
end Go.Proofs.Ytdcikbhfoplkmaa.PH

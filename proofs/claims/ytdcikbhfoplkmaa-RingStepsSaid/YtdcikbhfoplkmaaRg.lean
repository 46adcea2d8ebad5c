/- Memory: which blocks may have turned; a block of many cells. -/
import Derived.Test.YtdcikbhfoplkmaaProg
import Derived.WalkKit
import Derived.WalkSpells
import Derived.KernelRfl
import Derived.BigQuiet
import Derived.Lib.Hide
import Derived.Below
import Derived.OwnWalk
import Derived.Laws.OwnMore
import Derived.OrdersHeld
import Derived.StillTail
import Derived.RegionTactic
import Derived.Deep.AppendLies
namespace Go.Proofs.Ytdcikbhfoplkmaa.Hp
open Go Go.RowKit
set_option linter.unusedVariables false
set_option linter.unusedSimpArgs false

/-- Only blocks of S, and new ones, may have turned. -/
structure Fr (S : Nat → Prop) (w w' : World) : Prop where
  os : w'.os = w.os
  tape : w'.tape = w.tape
  output : w'.output = w.output
  size : w.heap.size ≤ w'.heap.size
  block : ∀ k, k < w.heap.size → ¬ S k → w'.heap[k]? = w.heap[k]?

theorem Fr.refl (S : Nat → Prop) (w : World) : Fr S w w := ⟨rfl, rfl, rfl, Nat.le_refl _, fun _ _ _ => rfl⟩
theorem Fr.trans {S : Nat → Prop} {a b c : World} (h : Fr S a b) (k : Fr S b c) : Fr S a c :=
  ⟨k.os.trans h.os, k.tape.trans h.tape, k.output.trans h.output, Nat.le_trans h.size k.size, fun i hi hs => (k.block i (Nat.lt_of_lt_of_le hi h.size) hs).trans (h.block i hi hs)⟩
theorem Fr.mono {S T : Nat → Prop} {w w' : World} (h : Fr S w w') (hs : ∀ k, k < w.heap.size → S k → T k) : Fr T w w' :=
  ⟨h.os, h.tape, h.output, h.size, fun k hk ht => h.block k hk fun z => ht (hs k hk z)⟩
/-- What was new in between may turn, too. -/
theorem Fr.then {S T : Nat → Prop} {a b c : World} (h : Fr S a b) (k : Fr T b c) (ht : ∀ k, k < a.heap.size → T k → S k) : Fr S a c :=
  ⟨k.os.trans h.os, k.tape.trans h.tape, k.output.trans h.output, Nat.le_trans h.size k.size, fun i hi hs => (k.block i (Nat.lt_of_lt_of_le hi h.size) (fun z => hs (ht i hi z))).trans (h.block i hi hs)⟩
theorem Fr.alloc {S : Nat → Prop} {a b : World} (h : Fr S a b) (o : Obj) : Fr S a (b.alloc o) :=
  ⟨h.os, h.tape, h.output, by have := h.size; simp; omega, fun k hk hs => (Below.heap_alloc b o k (Nat.lt_of_lt_of_le hk h.size)).trans (h.block k hk hs)⟩
theorem Fr.setCell {S : Nat → Prop} {a b : World} (h : Fr S a b) (p : Addr) (u : Value) (hp : S p.block ∨ a.heap.size ≤ p.block) : Fr S a (b.setCell p u) :=
  ⟨h.os, h.tape, h.output, by have := h.size; simpa [World.setCell] using this, fun k hk hs => (Below.heap_setCell b p u k (by
    rintro rfl
    rcases hp with hp | hp
    · exact hs hp
    · omega)).trans (h.block k hk hs)⟩
theorem Fr.drew {S : Nat → Prop} {a b : World} (h : Fr S a b) : Fr S a b.drew := ⟨h.os, h.tape, h.output, h.size, h.block⟩
theorem Fr.drewN {S : Nat → Prop} {a b : World} (h : Fr S a b) (n : Nat) : Fr S a (b.drewN n) := ⟨h.os, h.tape, h.output, h.size, h.block⟩
theorem Fr.below {S : Nat → Prop} {a b c : World} (h : Fr S a b) (hb : Below b.heap.size b c) : Fr S a c :=
  ⟨hb.os.trans h.os, hb.tape.trans h.tape, hb.output.trans h.output, Nat.le_trans h.size hb.size, fun k hk hs => (hb.block k (Nat.lt_of_lt_of_le hk h.size)).trans (h.block k hk hs)⟩
theorem Fr.grown {S : Nat → Prop} {a b c : World} {row : Option Nat} (h : Fr S a b) (hb : b.grownBy c row) (hr : ∀ k, row = some k → S k ∨ a.heap.size ≤ k) : Fr S a c :=
  ⟨hb.os.trans h.os, hb.tape.trans h.tape, hb.output.trans h.output, Nat.le_trans h.size hb.size, fun k hk hs => (hb.block k (Nat.lt_of_lt_of_le hk h.size) (by
    rintro e
    rcases hr k e.symm with h1 | h1
    · exact hs h1
    · omega)).trans (h.block k hk hs)⟩
theorem Fr.toBelow {S : Nat → Prop} {B : Nat} {w0 a b : World} (hb : Below B w0 a) (hB : B ≤ a.heap.size) (h : Fr S a b) (hs : ∀ k, S k → B ≤ k) : Below B w0 b :=
  hb.trans ⟨h.os, h.tape, h.output, h.size, fun k hk => h.block k (by omega) fun z => by have := hs k z; omega⟩

theorem blk_lt {w : World} {k : Nat} {o : Obj} (h : w.heap[k]? = some o) : k < w.heap.size := by
  rcases Nat.lt_or_ge k w.heap.size with h' | h'
  · exact h'
  · simp [Array.getElem?_eq_none h'] at h
theorem Fr.blk {S : Nat → Prop} {w w' : World} {k : Nat} {o : Obj} (h : Fr S w w') (hk : w.heap[k]? = some o) (hs : ¬ S k) : w'.heap[k]? = some o := (h.block k (blk_lt hk) hs).trans hk

theorem blk_cell {w : World} {k t : Nat} {cs : Array Value} (h : w.heap[k]? = some (.cells cs t (0, 0))) (i : Nat) {v : Value} (hv : cs[i]? = some v) : w.cell? ⟨k, i, none⟩ = some v ∧ w.frozen? ⟨k, i, none⟩ = false := by
  constructor
  · simp [World.cell?, h, hv]
  · simp [World.frozen?, h]
theorem blk_ne {w : World} {j k t u : Nat} {cs ds : Array Value} {f g : Nat × Nat} (h : w.heap[j]? = some (.cells cs t f)) (h' : w.heap[k]? = some (.cells ds u g)) (ht : t ≠ u) : j ≠ k := by
  rintro rfl
  rw [h] at h'
  injection h' with h'
  injection h' with _ h'
  exact ht h'
theorem blk_set {w : World} {k t : Nat} {cs : Array Value} (h : w.heap[k]? = some (.cells cs t (0, 0))) (i : Nat) (u : Value) : (w.setCell ⟨k, i, none⟩ u).heap[k]? = some (.cells (cs.setIfInBounds i u) t (0, 0)) := by
  have hlt := blk_lt h
  have h' : w.heap[k] = .cells cs t (0, 0) := by simpa [Array.getElem?_eq_getElem hlt] using h
  show (w.heap.modify k _)[k]? = _
  rw [Array.getElem?_eq_getElem (by simpa using hlt), Array.getElem_modify_self, h']
  rfl
theorem blk_far {w : World} {k : Nat} {o : Obj} (h : w.heap[k]? = some o) (p : Addr) (hp : k ≠ p.block) (u : Value) : (w.setCell p u).heap[k]? = some o := (Below.heap_setCell w p u k hp).trans h
theorem blk_alloc {w : World} {k : Nat} {o : Obj} (h : w.heap[k]? = some o) (x : Obj) : (w.alloc x).heap[k]? = some o := (Below.heap_alloc w x k (blk_lt h)).trans h
theorem blk_new (w : World) (o : Obj) : (w.alloc o).heap[w.heap.size]? = some o := by
  show (w.heap.push o)[w.heap.size]? = some o
  simp
end Go.Proofs.Ytdcikbhfoplkmaa.Hp
/- An arena and a port in memory; what an access does to them. -/
namespace Go.Proofs.Ytdcikbhfoplkmaa.Ar
open Go Go.RowKit Go.Proofs.Ytdcikbhfoplkmaa.Hp
set_option linter.unusedVariables false
set_option linter.unusedSimpArgs false

/-- An access, told. -/
structure Acc where
  who : Int
  kind : Int
  at_ : Int
  want : Int
  put : Int
  seen : Int
  left : Int
def Acc.cells (x : Acc) : List Value := [.int .i64 x.who, .int .i64 x.kind, .int .i64 x.at_, .int .u64 x.want, .int .u64 x.put, .int .u64 x.seen, .int .u64 x.left]

/-- What an arena holds. -/
structure AS where
  cells : List Int
  log : List Acc
  keep : Bool
  count : Int
  faults : Int

/-- The arena's block, its cells' block, its log. -/
structure IsA (B : Nat) (w : World) (a c : Nat) (lv : Value) (s : AS) : Prop where
  blk : w.heap[a]? = some (.cells #[.slice (some ⟨c, 0, none⟩) s.cells.length s.cells.length, lv, .bool s.keep, .int .i64 s.count, .int .i64 s.faults] 94 (0, 0))
  cel : w.heap[c]? = some (.cells (s.cells.map (Value.int .u64)).toArray 24 (0, 0))
  log : w.ownsRow B 83 7 lv s.log.length (s.log.flatMap Acc.cells)
  small : s.cells.length ≤ 4096

/-- A port's block. -/
def IsP (w : World) (p a : Nat) (who : Int) (grant : Bool) : Prop := w.heap[p]? = some (.cells #[.pointer (some ⟨a, 0, none⟩), .int .i64 who, .bool grant] 109 (0, 0))

theorem IsA.ac {B : Nat} {w : World} {a c : Nat} {lv : Value} {s : AS} (h : IsA B w a c lv s) : a ≠ c := blk_ne h.blk h.cel (by decide)
theorem IsA.ap {B : Nat} {w : World} {a c p : Nat} {lv : Value} {s : AS} {who : Int} {g : Bool} (h : IsA B w a c lv s) (hp : IsP w p a who g) : a ≠ p := blk_ne h.blk hp (by decide)
theorem IsA.cp {B : Nat} {w : World} {a c p : Nat} {lv : Value} {s : AS} {who : Int} {g : Bool} (h : IsA B w a c lv s) (hp : IsP w p a who g) : c ≠ p := blk_ne h.cel hp (by decide)

/-- Is a cell there? -/
def AS.has (s : AS) (at_ : Int) : Bool := decide (0 ≤ at_ ∧ at_ < s.cells.length)

set_option maxHeartbeats 8000000 in
theorem inside (B : Nat) (w : World) (a c : Nat) (lv : Value) (s : AS) (at_ : Int) (h : IsA B w a c lv s) :
    Calls Try.prog 53 #[.pointer (some ⟨a, 0, none⟩), .int .i64 at_] w fun e w' => e = .returned (.bool (s.has at_)) ∧ w' = w := by
  obtain ⟨c0, _⟩ := blk_cell h.blk 0 (v := .slice (some ⟨c, 0, none⟩) s.cells.length s.cells.length) rfl
  have hs := h.small
  unfold AS.has
  clear h
  by_cases h0 : 0 ≤ at_
  · by_cases h1 : at_ < s.cells.length
    · rw [decide_eq_true (p := 0 ≤ at_ ∧ at_ < (s.cells.length : Int)) ⟨h0, h1⟩]
      have b0 : decide (0 ≤ at_) = true := decide_eq_true h0
      have b1 : decide (at_ < (s.cells.length : Int)) = true := decide_eq_true h1
      clear h0 h1
      go_enter Try.func53, Try.ntmps53
      go_wp2
      go_ret
      exact ⟨rfl, rfl⟩
    · rw [decide_eq_false (p := 0 ≤ at_ ∧ at_ < (s.cells.length : Int)) (fun z => h1 z.2)]
      have b0 : decide (0 ≤ at_) = true := decide_eq_true h0
      have b1 : decide (at_ < (s.cells.length : Int)) = false := decide_eq_false h1
      clear h0 h1
      go_enter Try.func53, Try.ntmps53
      go_wp2
      go_ret
      exact ⟨rfl, rfl⟩
  · rw [decide_eq_false (p := 0 ≤ at_ ∧ at_ < (s.cells.length : Int)) (fun z => h0 z.1)]
    have b0 : decide (0 ≤ at_) = false := decide_eq_false h0
    clear h0
    go_enter Try.func53, Try.ntmps53
    go_wp2
    go_ret
    exact ⟨rfl, rfl⟩
end Go.Proofs.Ytdcikbhfoplkmaa.Ar
/- A region that draws its order, whose last store turns what the region has read: S holds until that store. -/
namespace Go.Proofs.Ytdcikbhfoplkmaa.Rg
open Go Go.RowKit
set_option linter.unusedVariables false
set_option linter.unusedSimpArgs false

/-- The list's entry, as it is written. -/
def nth : List Oper → Nat → Option Oper
  | [], _ => none
  | x :: _, 0 => some x
  | _ :: l, n + 1 => nth l n
theorem nth_eq : ∀ (l : List Oper) (n : Nat), nth l n = l[n]?
  | [], _ => by simp [nth]
  | x :: l, 0 => by simp [nth]
  | x :: l, n + 1 => by simp [nth, nth_eq l n]
theorem nth_ops {ops : Array Oper} {n : Nat} {o : Oper} (h : nth ops.toList n = some o) : ops[n]? = some o := by
  rw [nth_eq, Array.getElem?_toList] at h
  exact h

section
variable {P : Program} {ops : Array Oper} {Q : Exit → Act → World → Prop} {md : Region.Mode} {S : World → Prop} {z : Nat}

/-- Whatever comes up next: S holds behind it, unless it is number z. -/
def Upto (P : Program) (md : Region.Mode) (ops : Array Oper) (Q : Exit → Act → World → Prop) (S : World → Prop) (z : Nat) : Nat → Array Bool → Act → World → Prop
  | 0, listed, a, w => Region.ready md ops listed = [] ∧ Q .normal a w
  | n + 1, listed, a, w =>
    (Region.ready md ops listed = [] → Q .normal a w) ∧
    ∀ j ∈ Region.ready md ops listed, wpOp P ops Q j (fun a' w' => (j ≠ z → S w') ∧ Upto P md ops Q S z n (listed.setIfInBounds j true) a' w') a w

theorem Upto.any : ∀ (n : Nat) (listed : Array Bool) (a : Act) (w : World), Upto P md ops Q S z n listed a w → wpAny P md ops Q n listed a w
  | 0, _, _, _, h => h
  | n + 1, _, _, _, h => ⟨h.1, fun j hj => wpOp_mono (fun a' w' h' => Upto.any n _ a' w' h'.2) (h.2 j hj)⟩

theorem Upto.first {i : Nat} {oi : Oper} {v : Value} (hi : ops[i]? = some oi) (hsel : ∀ (j : Nat) (o : Oper) cs b, ops[j]? = some o → o.op ≠ .select cs b)
    (hz : Region.waitsFor md ops z i = true) (hQ : ∀ c a w, Q (.panic c) (a.put oi.dst v) w → Q (.panic c) a w) :
    ∀ (n : Nat) (listed : Array Bool) (a : Act) (w : World),
      (∀ j oj, ops[j]? = some oj → j ≠ i → listed.getD j true = false → (∀ e ∈ oj.after, Region.binds md e = true → e.on ≠ i) → oi.apart ops oj = true) →
      i ∈ Region.ready md ops listed → YieldsIf P ops S oi v a → S w →
      Upto P md ops Q S z n (listed.setIfInBounds i true) (a.put oi.dst v) w → Upto P md ops Q S z (n + 1) listed a w
  | 0, listed, a, w, _, hr, hy, hS, H => by
    refine ⟨fun h => (by rw [h] at hr; cases hr), fun j hj => ?_⟩
    rcases Decidable.em (j = i) with hji | hji
    · subst hji; exact hy.wpOp hi hS ⟨fun _ => hS, H⟩
    · exact absurd (ready_mono hj hji) (by rw [H.1]; simp)
  | n + 1, listed, a, w, hfree, hr, hy, hS, H => by
    refine ⟨fun h => (by rw [h] at hr; cases hr), fun j hj => ?_⟩
    rcases Decidable.em (j = i) with hji | hji
    · subst hji; exact hy.wpOp hi hS ⟨fun _ => hS, H⟩
    obtain ⟨hjun, oj, hoj, hall⟩ := mem_ready.1 hj
    have hno : ∀ e ∈ oj.after, Region.binds md e = true → e.on ≠ i := fun e he hb heq => by
      have h1 := hall e he hb
      rw [heq, getD_both (mem_ready.1 hr).1] at h1
      cases h1
    have hjz : j ≠ z := by
      rintro rfl
      obtain ⟨o2, ho2, e, he, hb, hon⟩ := Region.waitsFor_spec hz
      obtain rfl := Option.some.inj (hoj.symm.trans ho2)
      exact hno e he hb hon
    refine wpOp_mono (fun a' w' h3 => ⟨fun _ => h3.2.1 hjz, ?_⟩) (wpOp_putIf hoj (hfree j oj hoj hji hjun hno) (fun cs b => hsel i oi cs b hi) (fun cs b => hsel j oj cs b hoj) hQ hy (H.2 j (ready_mono hj hji)))
    refine Upto.first hi hsel hz hQ n (listed.setIfInBounds j true) a' w' (fun k ok hk hki hun hnk => hfree k ok hk hki ?_ hnk) (ready_mono hr (Ne.symm hji)) h3.1 (h3.2.1 hjz) (by rw [Array.setIfInBounds_comm _ _ hji]; exact h3.2.2)
    rcases Decidable.em (j = k) with hjk | hjk
    · subst hjk; exact hjun
    · rwa [getD_set_ne true hjk] at hun

/-- Number i yields v wherever S holds: it may be taken ahead. -/
theorem Upto.take {i : Nat} {oi : Oper} {v : Value} {n : Nat} {listed : Array Bool} {a : Act} {w : World} (hi : nth ops.toList i = some oi)
    (hs : Region.noSelect ops = true) (hf : Region.free md ops listed i = true) (hr : (Region.ready md ops listed).contains i = true) (hz : Region.waitsFor md ops z i = true)
    (hQ : ∀ c a w, Q (.panic c) (a.put oi.dst v) w → Q (.panic c) a w) (hw : Region.wanted oi (yielded ops a.tmps) = true) (hy : ∀ w, S w → (execOp a.eval oi).run P w = .ok (.value v) w) (hS : S w)
    (h : Upto P md ops Q S z n (listed.setIfInBounds i true) (a.put oi.dst v) w) : Upto P md ops Q S z (n + 1) listed a w :=
  Upto.first (nth_ops hi) (Region.noSelect_spec hs) hz hQ n listed a w (Region.free_spec (nth_ops hi) hf) (by simpa using hr) (.inl ⟨hw, hy⟩) hS h

/-- S throughout: there is no number z. -/
theorem Upto.firstA {i : Nat} {oi : Oper} {v : Value} (hi : ops[i]? = some oi) (hsel : ∀ (j : Nat) (o : Oper) cs b, ops[j]? = some o → o.op ≠ .select cs b)
    (hz : ops.size ≤ z) (hQ : ∀ c a w, Q (.panic c) (a.put oi.dst v) w → Q (.panic c) a w) :
    ∀ (n : Nat) (listed : Array Bool) (a : Act) (w : World),
      (∀ j oj, ops[j]? = some oj → j ≠ i → listed.getD j true = false → (∀ e ∈ oj.after, Region.binds md e = true → e.on ≠ i) → oi.apart ops oj = true) →
      i ∈ Region.ready md ops listed → YieldsIf P ops S oi v a → S w →
      Upto P md ops Q S z n (listed.setIfInBounds i true) (a.put oi.dst v) w → Upto P md ops Q S z (n + 1) listed a w
  | 0, listed, a, w, _, hr, hy, hS, H => by
    refine ⟨fun h => (by rw [h] at hr; cases hr), fun j hj => ?_⟩
    rcases Decidable.em (j = i) with hji | hji
    · subst hji; exact hy.wpOp hi hS ⟨fun _ => hS, H⟩
    · exact absurd (ready_mono hj hji) (by rw [H.1]; simp)
  | n + 1, listed, a, w, hfree, hr, hy, hS, H => by
    refine ⟨fun h => (by rw [h] at hr; cases hr), fun j hj => ?_⟩
    rcases Decidable.em (j = i) with hji | hji
    · subst hji; exact hy.wpOp hi hS ⟨fun _ => hS, H⟩
    obtain ⟨hjun, oj, hoj, hall⟩ := mem_ready.1 hj
    have hno : ∀ e ∈ oj.after, Region.binds md e = true → e.on ≠ i := fun e he hb heq => by
      have h1 := hall e he hb
      rw [heq, getD_both (mem_ready.1 hr).1] at h1
      cases h1
    have hjz : j ≠ z := by
      have := (Array.getElem?_eq_some_iff.1 hoj).1
      omega
    refine wpOp_mono (fun a' w' h3 => ⟨fun _ => h3.2.1 hjz, ?_⟩) (wpOp_putIf hoj (hfree j oj hoj hji hjun hno) (fun cs b => hsel i oi cs b hi) (fun cs b => hsel j oj cs b hoj) hQ hy (H.2 j (ready_mono hj hji)))
    refine Upto.firstA hi hsel hz hQ n (listed.setIfInBounds j true) a' w' (fun k ok hk hki hun hnk => hfree k ok hk hki ?_ hnk) (ready_mono hr (Ne.symm hji)) h3.1 (h3.2.1 hjz) (by rw [Array.setIfInBounds_comm _ _ hji]; exact h3.2.2)
    rcases Decidable.em (j = k) with hjk | hjk
    · subst hjk; exact hjun
    · rwa [getD_set_ne true hjk] at hun
theorem Upto.takeA {i : Nat} {oi : Oper} {v : Value} {n : Nat} {listed : Array Bool} {a : Act} {w : World} (hi : nth ops.toList i = some oi)
    (hs : Region.noSelect ops = true) (hf : Region.free md ops listed i = true) (hr : (Region.ready md ops listed).contains i = true) (hz : ops.size ≤ z)
    (hQ : ∀ c a w, Q (.panic c) (a.put oi.dst v) w → Q (.panic c) a w) (hw : Region.wanted oi (yielded ops a.tmps) = true) (hy : ∀ w, S w → (execOp a.eval oi).run P w = .ok (.value v) w) (hS : S w)
    (h : Upto P md ops Q S z n (listed.setIfInBounds i true) (a.put oi.dst v) w) : Upto P md ops Q S z (n + 1) listed a w :=
  Upto.firstA (nth_ops hi) (Region.noSelect_spec hs) hz hQ n listed a w (Region.free_spec (nth_ops hi) hf) (by simpa using hr) (.inl ⟨hw, hy⟩) hS h
/-- All is done. -/
theorem Upto.done : ∀ {n : Nat} {listed : Array Bool} {a : Act} {w : World}, Region.ready md ops listed = [] → Q .normal a w → Upto P md ops Q S z n listed a w
  | 0, _, _, _, hr, h => ⟨hr, h⟩
  | n + 1, _, _, _, hr, h => ⟨fun _ => h, by rw [hr]; simp⟩
/-- Number i is not wanted: it may be passed over ahead. -/
theorem Upto.skip {i : Nat} {oi : Oper} {n : Nat} {listed : Array Bool} {a : Act} {w : World} (hi : nth ops.toList i = some oi)
    (hs : Region.noSelect ops = true) (hf : Region.free md ops listed i = true) (hr : (Region.ready md ops listed).contains i = true) (hz : Region.waitsFor md ops z i = true)
    (hQ : ∀ c a w, Q (.panic c) (a.put oi.dst undef) w → Q (.panic c) a w) (hw : Region.wanted oi (yielded ops a.tmps) = false) (hS : S w)
    (h : Upto P md ops Q S z n (listed.setIfInBounds i true) (a.put oi.dst undef) w) : Upto P md ops Q S z (n + 1) listed a w :=
  Upto.first (nth_ops hi) (Region.noSelect_spec hs) hz hQ n listed a w (Region.free_spec (nth_ops hi) hf) (by simpa using hr) (.inr ⟨hw, rfl⟩) hS h

/-- Number i is the only one that may come up now. -/
theorem Upto.one {i : Nat} {oi : Oper} {n : Nat} {listed : Array Bool} {a : Act} {w : World} (hi : nth ops.toList i = some oi) (hr : Region.ready md ops listed = [i]) (hw : Region.wanted oi (yielded ops a.tmps) = true)
    (h : ∀ K : Act → World → Prop, Hid (∀ a' w', S w' → Upto P md ops Q S z n (listed.setIfInBounds i true) a' w' → K a' w') → oi.wp P a w K Q) : Upto P md ops Q S z (n + 1) listed a w := by
  refine ⟨fun h0 => (by rw [hr] at h0; cases h0), fun j hj => ?_⟩
  rw [hr] at hj
  obtain rfl := List.mem_singleton.1 hj
  refine wpOp_step (nth_ops hi) fun K hK => ?_
  rw [if_pos hw]
  exact h K fun a' w' hs hu => hK a' w' ⟨fun _ => hs, hu⟩
/-- Some may come up now. -/
theorem Upto.cases {L : List Nat} {n : Nat} {listed : Array Bool} {a : Act} {w : World} (hr : Region.ready md ops listed = L) (hne : L ≠ [])
    (h : ∀ i ∈ L, ∃ oi, nth ops.toList i = some oi ∧ Region.wanted oi (yielded ops a.tmps) = true ∧ ∀ K : Act → World → Prop, Hid (∀ a' w', S w' → Upto P md ops Q S z n (listed.setIfInBounds i true) a' w' → K a' w') → oi.wp P a w K Q) : Upto P md ops Q S z (n + 1) listed a w := by
  refine ⟨fun h0 => absurd (hr.symm.trans h0) hne, fun j hj => ?_⟩
  rw [hr] at hj
  obtain ⟨oi, hi, hw, h⟩ := h j hj
  refine wpOp_step (nth_ops hi) fun K hK => ?_
  rw [if_pos hw]
  exact h K fun a' w' hs hu => hK a' w' ⟨fun _ => hs, hu⟩
/-- The last one: S is asked no more. -/
theorem Upto.last {oi : Oper} {n : Nat} {listed : Array Bool} {a : Act} {w : World} (hi : nth ops.toList z = some oi) (hr : Region.ready md ops listed = [z]) (hr2 : Region.ready md ops (listed.setIfInBounds z true) = []) (hw : Region.wanted oi (yielded ops a.tmps) = true)
    (h : ∀ K : Act → World → Prop, Hid (∀ a' w', Q .normal a' w' → K a' w') → oi.wp P a w K Q) : Upto P md ops Q S z (n + 1) listed a w := by
  refine ⟨fun h0 => (by rw [hr] at h0; cases h0), fun j hj => ?_⟩
  rw [hr] at hj
  obtain rfl := List.mem_singleton.1 hj
  refine wpOp_step (nth_ops hi) fun K hK => ?_
  rw [if_pos hw]
  refine h K fun a' w' hq => hK a' w' ⟨fun hne => absurd rfl hne, ?_⟩
  cases n with
  | zero => exact ⟨hr2, hq⟩
  | succ n => exact ⟨fun _ => hq, by rw [hr2]; simp⟩

theorem Upto.start {id : Nat} {a : Act} {w : World} (S : World → Prop) (z : Nat) (hm : P.follows .mixedOrders = true) (hS : S w.drew)
    (h : S w.drew → Upto P .any ops Q S z ops.size (Array.replicate ops.size false) a w.drew) : (Code.region id ops true).wp P Q a w :=
  wp_region_any hm (Upto.any _ _ _ _ (h hS))
end
end Go.Proofs.Ytdcikbhfoplkmaa.Rg

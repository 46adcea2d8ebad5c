/- An arena and a port in memory; what an access does to them. -/
import Derived.Test.YtcnledehnefldaaHp
namespace Go.Proofs.Ytcnledehnefldaa.Ar
open Go Go.RowKit Go.Proofs.Ytcnledehnefldaa.Hp
set_option linter.unusedVariables false
set_option linter.unusedSimpArgs false

/-- An access, told. -/
structure Acc where
  who : Int
  kind : Int
  at_ : Int
  want : Int
  put : Int
  seen : Int
  left : Int
def Acc.cells (x : Acc) : List Value := [.int .i64 x.who, .int .i64 x.kind, .int .i64 x.at_, .int .u64 x.want, .int .u64 x.put, .int .u64 x.seen, .int .u64 x.left]

/-- What an arena holds. -/
structure AS where
  cells : List Int
  log : List Acc
  keep : Bool
  count : Int
  faults : Int

/-- The arena's block, its cells' block, its log. -/
structure IsA (B : Nat) (w : World) (a c : Nat) (lv : Value) (s : AS) : Prop where
  blk : w.heap[a]? = some (.cells #[.slice (some ⟨c, 0, none⟩) s.cells.length s.cells.length, lv, .bool s.keep, .int .i64 s.count, .int .i64 s.faults] 111 (0, 0))
  cel : w.heap[c]? = some (.cells (s.cells.map (Value.int .u64)).toArray 24 (0, 0))
  log : w.ownsRow B 75 7 lv s.log.length (s.log.flatMap Acc.cells)
  small : s.cells.length ≤ 4096

/-- A port's block. -/
def IsP (w : World) (p a : Nat) (who : Int) (grant : Bool) : Prop := w.heap[p]? = some (.cells #[.pointer (some ⟨a, 0, none⟩), .int .i64 who, .bool grant] 113 (0, 0))

theorem IsA.ac {B : Nat} {w : World} {a c : Nat} {lv : Value} {s : AS} (h : IsA B w a c lv s) : a ≠ c := blk_ne h.blk h.cel (by decide)
theorem IsA.ap {B : Nat} {w : World} {a c p : Nat} {lv : Value} {s : AS} {who : Int} {g : Bool} (h : IsA B w a c lv s) (hp : IsP w p a who g) : a ≠ p := blk_ne h.blk hp (by decide)
theorem IsA.cp {B : Nat} {w : World} {a c p : Nat} {lv : Value} {s : AS} {who : Int} {g : Bool} (h : IsA B w a c lv s) (hp : IsP w p a who g) : c ≠ p := blk_ne h.cel hp (by decide)

/-- Is a cell there? -/
def AS.has (s : AS) (at_ : Int) : Bool := decide (0 ≤ at_ ∧ at_ < s.cells.length)

set_option maxHeartbeats 8000000 in
theorem inside (B : Nat) (w : World) (a c : Nat) (lv : Value) (s : AS) (at_ : Int) (h : IsA B w a c lv s) :
    Calls Try.prog 57 #[.pointer (some ⟨a, 0, none⟩), .int .i64 at_] w fun e w' => e = .returned (.bool (s.has at_)) ∧ w' = w := by
  obtain ⟨c0, _⟩ := blk_cell h.blk 0 (v := .slice (some ⟨c, 0, none⟩) s.cells.length s.cells.length) rfl
  have hs := h.small
  unfold AS.has
  clear h
  by_cases h0 : 0 ≤ at_
  · by_cases h1 : at_ < s.cells.length
    · rw [decide_eq_true (p := 0 ≤ at_ ∧ at_ < (s.cells.length : Int)) ⟨h0, h1⟩]
      have b0 : decide (0 ≤ at_) = true := decide_eq_true h0
      have b1 : decide (at_ < (s.cells.length : Int)) = true := decide_eq_true h1
      clear h0 h1
      go_enter Try.func57, Try.ntmps57
      go_wp2
      go_ret
      exact ⟨rfl, rfl⟩
    · rw [decide_eq_false (p := 0 ≤ at_ ∧ at_ < (s.cells.length : Int)) (fun z => h1 z.2)]
      have b0 : decide (0 ≤ at_) = true := decide_eq_true h0
      have b1 : decide (at_ < (s.cells.length : Int)) = false := decide_eq_false h1
      clear h0 h1
      go_enter Try.func57, Try.ntmps57
      go_wp2
      go_ret
      exact ⟨rfl, rfl⟩
  · rw [decide_eq_false (p := 0 ≤ at_ ∧ at_ < (s.cells.length : Int)) (fun z => h0 z.1)]
    have b0 : decide (0 ≤ at_) = false := decide_eq_false h0
    clear h0
    go_enter Try.func57, Try.ntmps57
    go_wp2
    go_ret
    exact ⟨rfl, rfl⟩
end Go.Proofs.Ytcnledehnefldaa.Ar

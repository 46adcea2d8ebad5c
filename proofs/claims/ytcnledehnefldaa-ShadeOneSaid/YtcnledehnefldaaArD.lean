/- The other methods. -/
import Derived.Test.YtcnledehnefldaaArC
namespace Go.Proofs.Ytcnledehnefldaa.Ar
open Go Go.RowKit Go.Proofs.Ytcnledehnefldaa.Hp
set_option linter.unusedVariables false
set_option linter.unusedSimpArgs false

theorem grant (w : World) (p a : Nat) (who : Int) (g : Bool) (hp : IsP w p a who g) :
    Calls Try.prog 29 #[.pointer (some ⟨p, 0, none⟩)] w fun e w' => e = .returned (.tuple #[]) ∧ IsP w' p a who true ∧ Fr (fun k => k = p) w w' := by
  obtain ⟨p2, q2⟩ := blk_cell hp 2 (v := .bool g) rfl
  have hE := blk_set hp 2 (.bool true)
  clear hp
  go_enter Try.func29, Try.ntmps29
  go_wp2
  go_end0
  exact ⟨rfl, by simpa [IsP] using hE, (Fr.refl _ w).setCell _ _ (.inl rfl)⟩
theorem grant_nil (w : World) : Calls Try.prog 29 #[.pointer none] w fun e w' => e = .returned (.tuple #[]) ∧ w' = w := by
  go_enter Try.func29, Try.ntmps29
  go_wp2
  go_end0
  exact ⟨rfl, rfl⟩

theorem open_ (w : World) (p a : Nat) (who : Int) (g : Bool) (hp : IsP w p a who g) :
    Calls Try.prog 47 #[.pointer (some ⟨p, 0, none⟩)] w fun e w' => e = .returned (.bool g) ∧ w' = w := by
  obtain ⟨p2, q2⟩ := blk_cell hp 2 (v := .bool g) rfl
  clear hp
  go_enter Try.func47, Try.ntmps47
  go_wp2
  go_ret
  exact ⟨rfl, rfl⟩
theorem open_nil (w : World) : Calls Try.prog 47 #[.pointer none] w fun e w' => e = .returned (.bool false) ∧ w' = w := by
  go_enter Try.func47, Try.ntmps47
  go_wp2
  go_ret
  exact ⟨rfl, rfl⟩
theorem who_ (w : World) (p a : Nat) (who : Int) (g : Bool) (hp : IsP w p a who g) :
    Calls Try.prog 62 #[.pointer (some ⟨p, 0, none⟩)] w fun e w' => e = .returned (.int .i64 who) ∧ w' = w := by
  obtain ⟨p2, q2⟩ := blk_cell hp 1 (v := .int .i64 who) rfl
  clear hp
  go_enter Try.func62, Try.ntmps62
  go_wp2
  go_ret
  exact ⟨rfl, rfl⟩
theorem mFaults (B : Nat) (w : World) (a c : Nat) (lv : Value) (s : AS) (h : IsA B w a c lv s) :
    Calls Try.prog 34 #[.pointer (some ⟨a, 0, none⟩)] w fun e w' => e = .returned (.int .i64 s.faults) ∧ w' = w := by
  obtain ⟨c0, f0⟩ := blk_cell h.blk 4 (v := .int .i64 s.faults) rfl
  clear h
  go_enter Try.func34, Try.ntmps34
  go_wp2
  go_ret
  exact ⟨rfl, rfl⟩
theorem mFaults_nil (w : World) : Calls Try.prog 34 #[.pointer none] w fun e w' => e = .returned (.int .i64 0) ∧ w' = w := by
  go_enter Try.func34, Try.ntmps34
  go_wp2
  go_ret
  exact ⟨rfl, rfl⟩
set_option maxHeartbeats 1000000 in
theorem mPoke (B : Nat) (w : World) (a c : Nat) (lv : Value) (s : AS) (at_ v : Int) (h : IsA B w a c lv s) (hh : s.has at_ = true) :
    Calls Try.prog 27 #[.pointer (some ⟨a, 0, none⟩), .int .i64 at_, .int .u64 v] w fun e w' => e = .returned (.int .i64 0) ∧ IsA B w' a c lv { s with cells := s.cells.set at_.toNat v } ∧ Fr (fun k => k = c) w w' := by
  have hat := (of_decide_eq_true hh).1
  have hat2 := (of_decide_eq_true hh).2
  obtain ⟨c0, f0⟩ := blk_cell h.blk 0 (v := .slice (some ⟨c, 0, none⟩) s.cells.length s.cells.length) rfl
  obtain ⟨d0, e0⟩ := blk_cell h.cel at_.toNat (v := .int .u64 (s.cells.getD at_.toNat 0)) (by
    have : at_.toNat < s.cells.length := by omega
    simp [List.getD, this])
  have hi := inside B w a c lv s at_ h
  rw [hh] at hi
  have E1 := blk_far h.blk ⟨c, at_.toNat, none⟩ h.ac (.int .u64 v)
  have E2 := blk_set h.cel at_.toNat (.int .u64 v)
  have E3 := own_far h.log ⟨c, at_.toNat, none⟩ (.int .u64 v) h.lc
  have E4 := h.small
  have hat_ := hat
  have hat2_ := hat2
  replace hat : decide (0 ≤ at_) = true := decide_eq_true hat
  replace hat2 : decide (at_ < (s.cells.length : Int)) = true := decide_eq_true hat2
  clear h hh
  go_enter Try.func27, Try.ntmps27
  go_wp2_with (first | (go_at_call 57; refine hi.mono ?_; rintro e w' ⟨rfl, rfl⟩))
  go_ret
  exact ⟨rfl, ⟨by simpa using E1, by rw [E2]; simp [List.map_set], E3, by simpa using E4⟩, (Fr.refl _ _).setCell _ _ (.inl rfl)⟩
theorem mPoke_out (B : Nat) (w : World) (a c : Nat) (lv : Value) (s : AS) (at_ v : Int) (h : IsA B w a c lv s) (hh : s.has at_ = false) :
    Calls Try.prog 27 #[.pointer (some ⟨a, 0, none⟩), .int .i64 at_, .int .u64 v] w fun e w' => e = .returned (.int .i64 5) ∧ w' = w := by
  have hi := inside B w a c lv s at_ h
  rw [hh] at hi
  clear h hh
  go_enter Try.func27, Try.ntmps27
  go_wp2_with (first | (go_at_call 57; refine hi.mono ?_; rintro e w' ⟨rfl, rfl⟩))
  go_ret
  exact ⟨rfl, rfl⟩
theorem mPoke_nil (w : World) (at_ v : Int) : Calls Try.prog 27 #[.pointer none, .int .i64 at_, .int .u64 v] w fun e w' => e = .returned (.int .i64 2) ∧ w' = w := by
  go_enter Try.func27, Try.ntmps27
  go_wp2
  go_ret
  exact ⟨rfl, rfl⟩
set_option maxHeartbeats 1000000 in
theorem mPeek (B : Nat) (w : World) (a c : Nat) (lv : Value) (s : AS) (at_ : Int) (h : IsA B w a c lv s) (hh : s.has at_ = true) :
    Calls Try.prog 54 #[.pointer (some ⟨a, 0, none⟩), .int .i64 at_] w fun e w' => e = .returned (.tuple #[.int .u64 (s.cells.getD at_.toNat 0), .int .i64 0]) ∧ ∃ n, w' = w.drewN n := by
  have hat := (of_decide_eq_true hh).1
  have hat2 := (of_decide_eq_true hh).2
  obtain ⟨c0, f0⟩ := blk_cell h.blk 0 (v := .slice (some ⟨c, 0, none⟩) s.cells.length s.cells.length) rfl
  obtain ⟨x, hx⟩ : ∃ x, x = s.cells.getD at_.toNat 0 := ⟨_, rfl⟩
  obtain ⟨d0, e0⟩ := blk_cell h.cel at_.toNat (v := .int .u64 x) (by
    have : at_.toNat < s.cells.length := by omega
    rw [hx]
    simp [List.getD, this])
  have hi := inside B w a c lv s at_ h
  rw [hh] at hi
  rw [← hx]
  have hat_ := hat
  have hat2_ := hat2
  replace hat : decide (0 ≤ at_) = true := decide_eq_true hat
  replace hat2 : decide (at_ < (s.cells.length : Int)) = true := decide_eq_true hat2
  clear h hh hx
  go_enter Try.func54, Try.ntmps54
  go_wp2_with (first | (go_at_call 57; refine hi.mono ?_; rintro e w' ⟨rfl, rfl⟩))
  go_ret2
  exact ⟨rfl, 0, rfl⟩
theorem mPeek_out (B : Nat) (w : World) (a c : Nat) (lv : Value) (s : AS) (at_ : Int) (h : IsA B w a c lv s) (hh : s.has at_ = false) :
    Calls Try.prog 54 #[.pointer (some ⟨a, 0, none⟩), .int .i64 at_] w fun e w' => e = .returned (.tuple #[.int .u64 0, .int .i64 5]) ∧ ∃ n, w' = w.drewN n := by
  have hi := inside B w a c lv s at_ h
  rw [hh] at hi
  clear h hh
  go_enter Try.func54, Try.ntmps54
  go_wp2_with (first | (go_at_call 57; refine hi.mono ?_; rintro e w' ⟨rfl, rfl⟩))
  go_ret2
  exact ⟨rfl, 0, rfl⟩
theorem mPeek_nil (w : World) (at_ : Int) : Calls Try.prog 54 #[.pointer none, .int .i64 at_] w fun e w' => e = .returned (.tuple #[.int .u64 0, .int .i64 2]) ∧ ∃ n, w' = w.drewN n := by
  go_enter Try.func54, Try.ntmps54
  go_wp2
  go_ret2
  exact ⟨rfl, 0, rfl⟩
end Go.Proofs.Ytcnledehnefldaa.Ar

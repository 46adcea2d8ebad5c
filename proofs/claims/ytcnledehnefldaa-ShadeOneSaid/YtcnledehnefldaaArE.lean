/- Making an arena and a port; the image; nil ports. -/
import Derived.Test.YtcnledehnefldaaArD
namespace Go.Proofs.Ytcnledehnefldaa.Ar
open Go Go.RowKit Go.Proofs.Ytcnledehnefldaa.Hp
set_option linter.unusedVariables false
set_option linter.unusedSimpArgs false

theorem new_no (w : World) (n : Int) (keep : Bool) (h : n < 1 ∨ 4096 < n) :
    Calls Try.prog 55 #[.int .i64 n, .bool keep] w fun e w' => e = .returned (.tuple #[.pointer none, .int .i64 1]) ∧ w' = w := by
  by_cases h1 : n < 1
  · replace h1 := decide_eq_true h1
    go_enter Try.func55, Try.ntmps55
    go_wp2
    go_ret2
    exact ⟨rfl, rfl⟩
  · have h2 := decide_eq_true (p := 4096 < n) (by omega)
    replace h1 := decide_eq_false h1
    go_enter Try.func55, Try.ntmps55
    go_wp2
    go_ret2
    exact ⟨rfl, rfl⟩
theorem infoU : (Try.prog.info? 24).map (fun i => (i.zero, i.size, i.bytes)) = some (some (.int .u64 0), 1, 8) := by kernel_rfl
theorem own_full {B g n e : Nat} {w : World} {xs : List Value} (h : w.ownsRow B e 1 (.slice (some ⟨g, 0, none⟩) n n) n xs) : w.heap[g]? = some (.cells xs.toArray e (0, 0)) := by
  rcases h.2 with ⟨h2, _⟩ | ⟨g', cap, cur, h2, _, h4, _, _, h5, h6⟩
  · simp at h2
  · simp only [Value.slice.injEq, Option.some.injEq, Addr.mk.injEq, and_true, true_and] at h2
    obtain ⟨rfl, rfl⟩ := h2
    rw [List.take_of_length_le (by rw [Array.length_toList, h5]; exact Nat.le_refl _)] at h6
    rw [h4, ← h6]
set_option maxHeartbeats 2000000 in
theorem new_ (B : Nat) (w : World) (n : Nat) (keep : Bool) (h : 1 ≤ n) (h' : n ≤ 4096) :
    Calls Try.prog 55 #[.int .i64 n, .bool keep] w fun e w' => ∃ a c, e = .returned (.tuple #[.pointer (some ⟨a, 0, none⟩), .int .i64 0]) ∧ IsA B w' a c (.slice none 0 0) ⟨List.replicate n 0, [], keep, 0, 0⟩ ∧ Fr (fun _ => False) w w' ∧ w.heap.size ≤ a ∧ w.heap.size ≤ c := by
  have h1 := decide_eq_false (p := ((n : Int) < 1)) (by omega)
  have h2 := decide_eq_false (p := (4096 < (n : Int))) (by omega)
  obtain ⟨i0, hi0, hz0, hz1, hz2⟩ := info_parts infoU
  go_enter Try.func55, Try.ntmps55
  go_wp2_with (first | (at_make; refine wpList_make_full _ rfl _ _ 62 rfl w.heap.size 24 i0 (.int .u64 0) 1 Try.underlying62 hi0 hz0 hz1 _ _ _ _ n rfl rfl rfl rfl (by rw [hz2]; omega) (by unfold maxLen; omega) (Nat.le_refl _) ?_))
  intro w1 own1 grow1
  have cel1 := own_full own1
  go_wp2
  go_ret2
  have F1 : Fr (fun _ => False) w w1 := (Fr.refl _ w).grown grow1 (fun k hk => by cases hk)
  refine ⟨w1.heap.size, w.heap.size, by simp, ⟨?_, ?_, World.ownsRow_nil _ _ _ _, by simpa using h'⟩, F1.alloc _, F1.size, Nat.le_refl _⟩
  · rw [blk_new]
    simp
  · rw [blk_alloc cel1]
    rw [toList_madeCells_one]
    simp

theorem port_no (w : World) (a : Nat) (who : Int) (h : who < 0 ∨ 15 < who) :
    Calls Try.prog 56 #[.pointer (some ⟨a, 0, none⟩), .int .i64 who] w fun e w' => e = .returned (.tuple #[.pointer none, .int .i64 1]) ∧ w' = w := by
  by_cases h1 : who < 0
  · replace h1 := decide_eq_true h1
    go_enter Try.func56, Try.ntmps56
    go_wp2
    go_ret2
    exact ⟨rfl, rfl⟩
  · have h2 := decide_eq_true (p := 15 < who) (by omega)
    replace h1 := decide_eq_false h1
    go_enter Try.func56, Try.ntmps56
    go_wp2
    go_ret2
    exact ⟨rfl, rfl⟩
set_option maxHeartbeats 2000000 in
theorem port (w : World) (a : Nat) (who : Int) (h : 0 ≤ who) (h' : who ≤ 15) :
    Calls Try.prog 56 #[.pointer (some ⟨a, 0, none⟩), .int .i64 who] w fun e w' => ∃ p, e = .returned (.tuple #[.pointer (some ⟨p, 0, none⟩), .int .i64 0]) ∧ IsP w' p a who false ∧ Fr (fun _ => False) w w' ∧ w.heap.size ≤ p := by
  have h1 := decide_eq_false (p := (who < 0)) (by omega)
  have h2 := decide_eq_false (p := (15 < who)) (by omega)
  go_enter Try.func56, Try.ntmps56
  go_wp2
  go_ret2
  exact ⟨w.heap.size, by simp, blk_new w _, (Fr.refl _ w).alloc _, Nat.le_refl _⟩
theorem port_nil (w : World) (who : Int) : Calls Try.prog 56 #[.pointer none, .int .i64 who] w fun e w' => e = .returned (.tuple #[.pointer none, .int .i64 2]) ∧ w' = w := by
  go_enter Try.func56, Try.ntmps56
  go_wp2
  go_ret2
  exact ⟨rfl, rfl⟩
/-! A nil port. -/
theorem access_nil (w : World) (kind at_ want put : Int) (fv : Value) :
    Calls Try.prog 75 #[.pointer none, .int .i64 kind, .int .i64 at_, .int .u64 want, .int .u64 put, fv] w fun e w' => e = .returned (.int .u64 0) ∧ w' = w := by
  go_enter Try.func75, Try.ntmps75
  go_wp2
  go_ret
  exact ⟨rfl, rfl⟩
theorem load_nil (w : World) (at_ : Int) : Calls Try.prog 66 #[.pointer none, .int .i64 at_] w fun e w' => e = .returned (.int .u64 0) ∧ Fr (fun _ => False) w w' := by
  go_enter Try.func66, Try.ntmps66
  go_wp2_with (first | (go_at_call 75; refine (access_nil _ _ _ _ _ _).mono ?_; rintro e w' ⟨rfl, rfl⟩))
  go_ret
  exact ⟨rfl, Fr.refl _ _⟩
theorem store_nil (w : World) (at_ v : Int) : Calls Try.prog 53 #[.pointer none, .int .i64 at_, .int .u64 v] w fun e w' => e = .returned (.tuple #[]) ∧ Fr (fun _ => False) w w' := by
  go_enter Try.func53, Try.ntmps53
  go_wp2_with (first | (go_at_call 75; refine (access_nil _ _ _ _ _ _).mono ?_; rintro e w' ⟨rfl, rfl⟩))
  go_end0
  exact ⟨rfl, (Fr.refl _ _).alloc _⟩
end Go.Proofs.Ytcnledehnefldaa.Ar

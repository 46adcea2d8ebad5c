/- Fits of a nil table. -/
import Derived.Test.YteankgbcmfkfnaaTab
namespace Go.Proofs.Yteankgbcmfkfnaa.Cl
open Go Go.RowKit Go.Proofs.Yteankgbcmfkfnaa.Hp Go.Proofs.Yteankgbcmfkfnaa.PH
open Go.Proofs.YteankgbcmfkfnaaW.PrintWords (bt Kd)
set_option linter.unusedVariables false
set_option linter.unusedSimpArgs false

theorem known_nil (c : Int) (w : World) : Calls Try.prog 31 #[.pointer none, .int .i64 c] w fun e w' => e = .returned (.bool false) ∧ w' = w := by
  go_enter Try.func31, Try.ntmps31
  go_wp2
  go_ret
  exact ⟨rfl, rfl⟩
set_option maxHeartbeats 4000000 in
set_option maxRecDepth 100000 in
theorem fitsN1 (w : World) : Calls Try.prog 16 #[.pointer none, .agg #[.int .i64 0, .int .i64 1, .int .i64 0]] w fun e w' => e = .returned (.bool false) ∧ Below w.heap.size w w' := by
  have hb0 : Below w.heap.size w (w.alloc (.cells #[.int .i64 0, .int .i64 1, .int .i64 0] 45)) := (Below.refl _ w).alloc (Nat.le_refl _) _
  have KB := Lib.hid (Hp.blk_new w (.cells #[.int .i64 0, .int .i64 1, .int .i64 0] 45))
  have HB := Lib.hid hb0
  clear hb0
  obtain ⟨q0, -⟩ := Hp.blk_cell KB.out 0 rfl
  obtain ⟨q1, -⟩ := Hp.blk_cell KB.out 1 rfl
  obtain ⟨q2, -⟩ := Hp.blk_cell KB.out 2 rfl
  obtain ⟨r, hr⟩ : ∃ r : Int, r = 1 := ⟨_, rfl⟩
  have HW : Hid (header_Head_Words.f 10 0 1 0 = some r) := Lib.hid (by rw [hr]; decide +kernel)
  have hr0 : (r == 0) = false := by rw [hr]; rfl
  clear hr
  go_enter Try.func16, Try.ntmps16
  go_upto_region 3 with (first
    | (go_at_call 32; go_loud ((with_reducible refine (header_Head_Words.calls 10 0 1 0 r _ HW.out).mono ?_); rintro e w2 ⟨rfl, hb9⟩; (have hb := below_any hb9); clear hb9 q0 q1 q2; replace KB := Lib.hid ((hb.block _ (blk_lt KB.out)).trans KB.out); replace HB := Lib.hid (HB.out.trans (hb.mono HB.out.size)); clear hb)))
  have KB2 : Hid (w2.drew.heap[w.heap.size]? = some (.cells #[.int .i64 0, .int .i64 1, .int .i64 0] 45 (0, 0))) := Lib.hid KB.out
  replace HB := Lib.hid HB.out.drew
  clear KB
  refine Rg.Upto.start (fun w' => w'.heap[w.heap.size]? = some (.cells #[.int .i64 0, .int .i64 1, .int .i64 0] 45 (0, 0)) ∧ True) 1000 (by kernel_rfl) ⟨KB2.out, trivial⟩ (fun HSC => ?_)
  refine Rg.Upto.takeA (i := 0) (v := ?_) rfl (by kernel_rfl) (by kernel_rfl) (by kernel_rfl) (of_decide_eq_true (by kernel_rfl)) (fun _ _ _ h => h) (by rfl) (fun w5 hS5 => ?_) HSC ?_
  rotate_left
  · obtain ⟨h1, h2⟩ := hS5
    clear h1 h2
    go_simp
    try rfl
  try simp only [Act.put, List.setIfInBounds_toArray, List.set_cons_zero, List.set_cons_succ]
  refine Rg.Upto.takeA (i := 1) (v := ?_) rfl (by kernel_rfl) (by kernel_rfl) (by kernel_rfl) (of_decide_eq_true (by kernel_rfl)) (fun _ _ _ h => h) (by rfl) (fun w5 hS5 => ?_) HSC ?_
  rotate_left
  · obtain ⟨h1, h2⟩ := hS5
    have q1 := (Hp.blk_cell h1 1 rfl).1
    clear h1 h2
    go_simp
    try rfl
  try simp only [Act.put, List.setIfInBounds_toArray, List.set_cons_zero, List.set_cons_succ]
  refine Rg.Upto.takeA (i := 2) (v := ?_) rfl (by kernel_rfl) (by kernel_rfl) (by kernel_rfl) (of_decide_eq_true (by kernel_rfl)) (fun _ _ _ h => h) (by rfl) (fun w5 hS5 => ?_) HSC ?_
  rotate_left
  · obtain ⟨h1, h2⟩ := hS5
    clear h1 h2
    go_simp
    try rfl
  try simp only [Act.put, List.setIfInBounds_toArray, List.set_cons_zero, List.set_cons_succ]
  refine Rg.Upto.takeA (i := 3) (v := ?_) rfl (by kernel_rfl) (by kernel_rfl) (by kernel_rfl) (of_decide_eq_true (by kernel_rfl)) (fun _ _ _ h => h) (by rfl) (fun w5 hS5 => ?_) HSC ?_
  rotate_left
  · obtain ⟨h1, h2⟩ := hS5
    clear h1 h2
    go_simp
    try rfl
  try simp only [Act.put, List.setIfInBounds_toArray, List.set_cons_zero, List.set_cons_succ]
  refine Rg.Upto.takeA (i := 4) (v := ?_) rfl (by kernel_rfl) (by kernel_rfl) (by kernel_rfl) (of_decide_eq_true (by kernel_rfl)) (fun _ _ _ h => h) (by rfl) (fun w5 hS5 => ?_) HSC ?_
  rotate_left
  · obtain ⟨h1, h2⟩ := hS5
    clear h1 h2
    go_simp
    try rfl
  try simp only [Act.put, List.setIfInBounds_toArray, List.set_cons_zero, List.set_cons_succ]
  refine Rg.Upto.takeA (i := 5) (v := ?_) rfl (by kernel_rfl) (by kernel_rfl) (by kernel_rfl) (of_decide_eq_true (by kernel_rfl)) (fun _ _ _ h => h) (by rfl) (fun w5 hS5 => ?_) HSC ?_
  rotate_left
  · obtain ⟨h1, h2⟩ := hS5
    clear h1 h2
    go_simp
    try rfl
  try simp only [Act.put, List.setIfInBounds_toArray, List.set_cons_zero, List.set_cons_succ]
  refine Rg.Upto.takeA (i := 6) (v := ?_) rfl (by kernel_rfl) (by kernel_rfl) (by kernel_rfl) (of_decide_eq_true (by kernel_rfl)) (fun _ _ _ h => h) (by rfl) (fun w5 hS5 => ?_) HSC ?_
  rotate_left
  · obtain ⟨h1, h2⟩ := hS5
    have q0 := (Hp.blk_cell h1 0 rfl).1
    clear h1 h2
    go_simp
    try rfl
  try simp only [Act.put, List.setIfInBounds_toArray, List.set_cons_zero, List.set_cons_succ]
  refine Rg.Upto.one (i := 7) rfl (by kernel_rfl) (by rfl) (fun KK hK => ?_)
  go_simp
  (with_reducible refine (known_nil 0 _).mono ?_)
  rintro e w3 ⟨rfl, hw3⟩
  obtain rfl := hw3.symm
  refine hK.out _ _ HSC ?_
  clear hK KK
  try simp only [Act.put, List.setIfInBounds_toArray, List.set_cons_zero, List.set_cons_succ]
  refine Rg.Upto.takeA (i := 8) (v := ?_) rfl (by kernel_rfl) (by kernel_rfl) (by kernel_rfl) (of_decide_eq_true (by kernel_rfl)) (fun _ _ _ h => h) (by rfl) (fun w5 hS5 => ?_) HSC ?_
  rotate_left
  · obtain ⟨h1, h2⟩ := hS5
    clear h1 h2
    go_simp
    try rfl
  try simp only [Act.put, List.setIfInBounds_toArray, List.set_cons_zero, List.set_cons_succ]
  refine Rg.Upto.skipA (i := 9) rfl (by kernel_rfl) (by kernel_rfl) (by kernel_rfl) (of_decide_eq_true (by kernel_rfl)) (fun _ _ _ h => h) (by rfl) HSC ?_
  try simp only [Act.put, List.setIfInBounds_toArray, List.set_cons_zero, List.set_cons_succ]
  refine Rg.Upto.skipA (i := 10) rfl (by kernel_rfl) (by kernel_rfl) (by kernel_rfl) (of_decide_eq_true (by kernel_rfl)) (fun _ _ _ h => h) (by rfl) HSC ?_
  try simp only [Act.put, List.setIfInBounds_toArray, List.set_cons_zero, List.set_cons_succ]
  refine Rg.Upto.skipA (i := 11) rfl (by kernel_rfl) (by kernel_rfl) (by kernel_rfl) (of_decide_eq_true (by kernel_rfl)) (fun _ _ _ h => h) (by rfl) HSC ?_
  try simp only [Act.put, List.setIfInBounds_toArray, List.set_cons_zero, List.set_cons_succ]
  refine Rg.Upto.skipA (i := 12) rfl (by kernel_rfl) (by kernel_rfl) (by kernel_rfl) (of_decide_eq_true (by kernel_rfl)) (fun _ _ _ h => h) (by rfl) HSC ?_
  try simp only [Act.put, List.setIfInBounds_toArray, List.set_cons_zero, List.set_cons_succ]
  refine Rg.Upto.skipA (i := 13) rfl (by kernel_rfl) (by kernel_rfl) (by kernel_rfl) (of_decide_eq_true (by kernel_rfl)) (fun _ _ _ h => h) (by rfl) HSC ?_
  try simp only [Act.put, List.setIfInBounds_toArray, List.set_cons_zero, List.set_cons_succ]
  refine Rg.Upto.skipA (i := 14) rfl (by kernel_rfl) (by kernel_rfl) (by kernel_rfl) (of_decide_eq_true (by kernel_rfl)) (fun _ _ _ h => h) (by rfl) HSC ?_
  try simp only [Act.put, List.setIfInBounds_toArray, List.set_cons_zero, List.set_cons_succ]
  refine Rg.Upto.skipA (i := 15) rfl (by kernel_rfl) (by kernel_rfl) (by kernel_rfl) (of_decide_eq_true (by kernel_rfl)) (fun _ _ _ h => h) (by rfl) HSC ?_
  try simp only [Act.put, List.setIfInBounds_toArray, List.set_cons_zero, List.set_cons_succ]
  refine Rg.Upto.skipA (i := 16) rfl (by kernel_rfl) (by kernel_rfl) (by kernel_rfl) (of_decide_eq_true (by kernel_rfl)) (fun _ _ _ h => h) (by rfl) HSC ?_
  try simp only [Act.put, List.setIfInBounds_toArray, List.set_cons_zero, List.set_cons_succ]
  refine Rg.Upto.skipA (i := 17) rfl (by kernel_rfl) (by kernel_rfl) (by kernel_rfl) (of_decide_eq_true (by kernel_rfl)) (fun _ _ _ h => h) (by rfl) HSC ?_
  try simp only [Act.put, List.setIfInBounds_toArray, List.set_cons_zero, List.set_cons_succ]
  refine Rg.Upto.skipA (i := 18) rfl (by kernel_rfl) (by kernel_rfl) (by kernel_rfl) (of_decide_eq_true (by kernel_rfl)) (fun _ _ _ h => h) (by rfl) HSC ?_
  try simp only [Act.put, List.setIfInBounds_toArray, List.set_cons_zero, List.set_cons_succ]
  refine Rg.Upto.skipA (i := 19) rfl (by kernel_rfl) (by kernel_rfl) (by kernel_rfl) (of_decide_eq_true (by kernel_rfl)) (fun _ _ _ h => h) (by rfl) HSC ?_
  try simp only [Act.put, List.setIfInBounds_toArray, List.set_cons_zero, List.set_cons_succ]
  refine Rg.Upto.skipA (i := 20) rfl (by kernel_rfl) (by kernel_rfl) (by kernel_rfl) (of_decide_eq_true (by kernel_rfl)) (fun _ _ _ h => h) (by rfl) HSC ?_
  try simp only [Act.put, List.setIfInBounds_toArray, List.set_cons_zero, List.set_cons_succ]
  refine Rg.Upto.skipA (i := 21) rfl (by kernel_rfl) (by kernel_rfl) (by kernel_rfl) (of_decide_eq_true (by kernel_rfl)) (fun _ _ _ h => h) (by rfl) HSC ?_
  try simp only [Act.put, List.setIfInBounds_toArray, List.set_cons_zero, List.set_cons_succ]
  refine Rg.Upto.takeA (i := 22) (v := ?_) rfl (by kernel_rfl) (by kernel_rfl) (by kernel_rfl) (of_decide_eq_true (by kernel_rfl)) (fun _ _ _ h => h) (by rfl) (fun w5 hS5 => ?_) HSC ?_
  rotate_left
  · obtain ⟨h1, h2⟩ := hS5
    clear h1 h2
    go_simp
    try rfl
  try simp only [Act.put, List.setIfInBounds_toArray, List.set_cons_zero, List.set_cons_succ]
  refine Rg.Upto.takeA (i := 23) (v := ?_) rfl (by kernel_rfl) (by kernel_rfl) (by kernel_rfl) (of_decide_eq_true (by kernel_rfl)) (fun _ _ _ h => h) (by rfl) (fun w5 hS5 => ?_) HSC ?_
  rotate_left
  · obtain ⟨h1, h2⟩ := hS5
    clear h1 h2
    go_simp
    try rfl
  try simp only [Act.put, List.setIfInBounds_toArray, List.set_cons_zero, List.set_cons_succ]
  refine Rg.Upto.takeA (i := 24) (v := ?_) rfl (by kernel_rfl) (by kernel_rfl) (by kernel_rfl) (of_decide_eq_true (by kernel_rfl)) (fun _ _ _ h => h) (by rfl) (fun w5 hS5 => ?_) HSC ?_
  rotate_left
  · obtain ⟨h1, h2⟩ := hS5
    clear h1 h2
    go_simp
    try rfl
  try simp only [Act.put, List.setIfInBounds_toArray, List.set_cons_zero, List.set_cons_succ]
  clear HSC
  refine Rg.Upto.done (by kernel_rfl) ?_
  go_wp2_with (fail)
  go_ret
  exact ⟨by first | rfl | trivial, HB.out⟩
set_option maxHeartbeats 4000000 in
set_option maxRecDepth 100000 in
theorem fitsN2 (w : World) : Calls Try.prog 16 #[.pointer none, .agg #[.int .i64 0, .int .i64 2, .int .i64 1]] w fun e w' => e = .returned (.bool true) ∧ Below w.heap.size w w' := by
  have hb0 : Below w.heap.size w (w.alloc (.cells #[.int .i64 0, .int .i64 2, .int .i64 1] 45)) := (Below.refl _ w).alloc (Nat.le_refl _) _
  have KB := Lib.hid (Hp.blk_new w (.cells #[.int .i64 0, .int .i64 2, .int .i64 1] 45))
  have HB := Lib.hid hb0
  clear hb0
  obtain ⟨q0, -⟩ := Hp.blk_cell KB.out 0 rfl
  obtain ⟨q1, -⟩ := Hp.blk_cell KB.out 1 rfl
  obtain ⟨q2, -⟩ := Hp.blk_cell KB.out 2 rfl
  obtain ⟨r, hr⟩ : ∃ r : Int, r = 2 := ⟨_, rfl⟩
  have HW : Hid (header_Head_Words.f 10 0 2 1 = some r) := Lib.hid (by rw [hr]; decide +kernel)
  have hr0 : (r == 0) = false := by rw [hr]; rfl
  clear hr
  go_enter Try.func16, Try.ntmps16
  go_upto_region 3 with (first
    | (go_at_call 32; go_loud ((with_reducible refine (header_Head_Words.calls 10 0 2 1 r _ HW.out).mono ?_); rintro e w2 ⟨rfl, hb9⟩; (have hb := below_any hb9); clear hb9 q0 q1 q2; replace KB := Lib.hid ((hb.block _ (blk_lt KB.out)).trans KB.out); replace HB := Lib.hid (HB.out.trans (hb.mono HB.out.size)); clear hb)))
  have KB2 : Hid (w2.drew.heap[w.heap.size]? = some (.cells #[.int .i64 0, .int .i64 2, .int .i64 1] 45 (0, 0))) := Lib.hid KB.out
  replace HB := Lib.hid HB.out.drew
  clear KB
  refine Rg.Upto.start (fun w' => w'.heap[w.heap.size]? = some (.cells #[.int .i64 0, .int .i64 2, .int .i64 1] 45 (0, 0)) ∧ True) 1000 (by kernel_rfl) ⟨KB2.out, trivial⟩ (fun HSC => ?_)
  refine Rg.Upto.takeA (i := 0) (v := ?_) rfl (by kernel_rfl) (by kernel_rfl) (by kernel_rfl) (of_decide_eq_true (by kernel_rfl)) (fun _ _ _ h => h) (by rfl) (fun w5 hS5 => ?_) HSC ?_
  rotate_left
  · obtain ⟨h1, h2⟩ := hS5
    clear h1 h2
    go_simp
    try rfl
  try simp only [Act.put, List.setIfInBounds_toArray, List.set_cons_zero, List.set_cons_succ]
  refine Rg.Upto.takeA (i := 1) (v := ?_) rfl (by kernel_rfl) (by kernel_rfl) (by kernel_rfl) (of_decide_eq_true (by kernel_rfl)) (fun _ _ _ h => h) (by rfl) (fun w5 hS5 => ?_) HSC ?_
  rotate_left
  · obtain ⟨h1, h2⟩ := hS5
    have q1 := (Hp.blk_cell h1 1 rfl).1
    clear h1 h2
    go_simp
    try rfl
  try simp only [Act.put, List.setIfInBounds_toArray, List.set_cons_zero, List.set_cons_succ]
  refine Rg.Upto.takeA (i := 2) (v := ?_) rfl (by kernel_rfl) (by kernel_rfl) (by kernel_rfl) (of_decide_eq_true (by kernel_rfl)) (fun _ _ _ h => h) (by rfl) (fun w5 hS5 => ?_) HSC ?_
  rotate_left
  · obtain ⟨h1, h2⟩ := hS5
    clear h1 h2
    go_simp
    try rfl
  try simp only [Act.put, List.setIfInBounds_toArray, List.set_cons_zero, List.set_cons_succ]
  refine Rg.Upto.takeA (i := 3) (v := ?_) rfl (by kernel_rfl) (by kernel_rfl) (by kernel_rfl) (of_decide_eq_true (by kernel_rfl)) (fun _ _ _ h => h) (by rfl) (fun w5 hS5 => ?_) HSC ?_
  rotate_left
  · obtain ⟨h1, h2⟩ := hS5
    clear h1 h2
    go_simp
    try rfl
  try simp only [Act.put, List.setIfInBounds_toArray, List.set_cons_zero, List.set_cons_succ]
  refine Rg.Upto.skipA (i := 4) rfl (by kernel_rfl) (by kernel_rfl) (by kernel_rfl) (of_decide_eq_true (by kernel_rfl)) (fun _ _ _ h => h) (by rfl) HSC ?_
  try simp only [Act.put, List.setIfInBounds_toArray, List.set_cons_zero, List.set_cons_succ]
  refine Rg.Upto.skipA (i := 5) rfl (by kernel_rfl) (by kernel_rfl) (by kernel_rfl) (of_decide_eq_true (by kernel_rfl)) (fun _ _ _ h => h) (by rfl) HSC ?_
  try simp only [Act.put, List.setIfInBounds_toArray, List.set_cons_zero, List.set_cons_succ]
  refine Rg.Upto.skipA (i := 6) rfl (by kernel_rfl) (by kernel_rfl) (by kernel_rfl) (of_decide_eq_true (by kernel_rfl)) (fun _ _ _ h => h) (by rfl) HSC ?_
  try simp only [Act.put, List.setIfInBounds_toArray, List.set_cons_zero, List.set_cons_succ]
  refine Rg.Upto.skipA (i := 7) rfl (by kernel_rfl) (by kernel_rfl) (by kernel_rfl) (of_decide_eq_true (by kernel_rfl)) (fun _ _ _ h => h) (by rfl) HSC ?_
  try simp only [Act.put, List.setIfInBounds_toArray, List.set_cons_zero, List.set_cons_succ]
  refine Rg.Upto.skipA (i := 8) rfl (by kernel_rfl) (by kernel_rfl) (by kernel_rfl) (of_decide_eq_true (by kernel_rfl)) (fun _ _ _ h => h) (by rfl) HSC ?_
  try simp only [Act.put, List.setIfInBounds_toArray, List.set_cons_zero, List.set_cons_succ]
  refine Rg.Upto.skipA (i := 9) rfl (by kernel_rfl) (by kernel_rfl) (by kernel_rfl) (of_decide_eq_true (by kernel_rfl)) (fun _ _ _ h => h) (by rfl) HSC ?_
  try simp only [Act.put, List.setIfInBounds_toArray, List.set_cons_zero, List.set_cons_succ]
  refine Rg.Upto.skipA (i := 10) rfl (by kernel_rfl) (by kernel_rfl) (by kernel_rfl) (of_decide_eq_true (by kernel_rfl)) (fun _ _ _ h => h) (by rfl) HSC ?_
  try simp only [Act.put, List.setIfInBounds_toArray, List.set_cons_zero, List.set_cons_succ]
  refine Rg.Upto.skipA (i := 11) rfl (by kernel_rfl) (by kernel_rfl) (by kernel_rfl) (of_decide_eq_true (by kernel_rfl)) (fun _ _ _ h => h) (by rfl) HSC ?_
  try simp only [Act.put, List.setIfInBounds_toArray, List.set_cons_zero, List.set_cons_succ]
  refine Rg.Upto.skipA (i := 12) rfl (by kernel_rfl) (by kernel_rfl) (by kernel_rfl) (of_decide_eq_true (by kernel_rfl)) (fun _ _ _ h => h) (by rfl) HSC ?_
  try simp only [Act.put, List.setIfInBounds_toArray, List.set_cons_zero, List.set_cons_succ]
  refine Rg.Upto.skipA (i := 13) rfl (by kernel_rfl) (by kernel_rfl) (by kernel_rfl) (of_decide_eq_true (by kernel_rfl)) (fun _ _ _ h => h) (by rfl) HSC ?_
  try simp only [Act.put, List.setIfInBounds_toArray, List.set_cons_zero, List.set_cons_succ]
  refine Rg.Upto.skipA (i := 14) rfl (by kernel_rfl) (by kernel_rfl) (by kernel_rfl) (of_decide_eq_true (by kernel_rfl)) (fun _ _ _ h => h) (by rfl) HSC ?_
  try simp only [Act.put, List.setIfInBounds_toArray, List.set_cons_zero, List.set_cons_succ]
  refine Rg.Upto.skipA (i := 15) rfl (by kernel_rfl) (by kernel_rfl) (by kernel_rfl) (of_decide_eq_true (by kernel_rfl)) (fun _ _ _ h => h) (by rfl) HSC ?_
  try simp only [Act.put, List.setIfInBounds_toArray, List.set_cons_zero, List.set_cons_succ]
  refine Rg.Upto.skipA (i := 16) rfl (by kernel_rfl) (by kernel_rfl) (by kernel_rfl) (of_decide_eq_true (by kernel_rfl)) (fun _ _ _ h => h) (by rfl) HSC ?_
  try simp only [Act.put, List.setIfInBounds_toArray, List.set_cons_zero, List.set_cons_succ]
  refine Rg.Upto.skipA (i := 17) rfl (by kernel_rfl) (by kernel_rfl) (by kernel_rfl) (of_decide_eq_true (by kernel_rfl)) (fun _ _ _ h => h) (by rfl) HSC ?_
  try simp only [Act.put, List.setIfInBounds_toArray, List.set_cons_zero, List.set_cons_succ]
  refine Rg.Upto.skipA (i := 18) rfl (by kernel_rfl) (by kernel_rfl) (by kernel_rfl) (of_decide_eq_true (by kernel_rfl)) (fun _ _ _ h => h) (by rfl) HSC ?_
  try simp only [Act.put, List.setIfInBounds_toArray, List.set_cons_zero, List.set_cons_succ]
  refine Rg.Upto.skipA (i := 19) rfl (by kernel_rfl) (by kernel_rfl) (by kernel_rfl) (of_decide_eq_true (by kernel_rfl)) (fun _ _ _ h => h) (by rfl) HSC ?_
  try simp only [Act.put, List.setIfInBounds_toArray, List.set_cons_zero, List.set_cons_succ]
  refine Rg.Upto.skipA (i := 20) rfl (by kernel_rfl) (by kernel_rfl) (by kernel_rfl) (of_decide_eq_true (by kernel_rfl)) (fun _ _ _ h => h) (by rfl) HSC ?_
  try simp only [Act.put, List.setIfInBounds_toArray, List.set_cons_zero, List.set_cons_succ]
  refine Rg.Upto.skipA (i := 21) rfl (by kernel_rfl) (by kernel_rfl) (by kernel_rfl) (of_decide_eq_true (by kernel_rfl)) (fun _ _ _ h => h) (by rfl) HSC ?_
  try simp only [Act.put, List.setIfInBounds_toArray, List.set_cons_zero, List.set_cons_succ]
  refine Rg.Upto.skipA (i := 22) rfl (by kernel_rfl) (by kernel_rfl) (by kernel_rfl) (of_decide_eq_true (by kernel_rfl)) (fun _ _ _ h => h) (by rfl) HSC ?_
  try simp only [Act.put, List.setIfInBounds_toArray, List.set_cons_zero, List.set_cons_succ]
  refine Rg.Upto.takeA (i := 23) (v := ?_) rfl (by kernel_rfl) (by kernel_rfl) (by kernel_rfl) (of_decide_eq_true (by kernel_rfl)) (fun _ _ _ h => h) (by rfl) (fun w5 hS5 => ?_) HSC ?_
  rotate_left
  · obtain ⟨h1, h2⟩ := hS5
    clear h1 h2
    go_simp
    try rfl
  try simp only [Act.put, List.setIfInBounds_toArray, List.set_cons_zero, List.set_cons_succ]
  refine Rg.Upto.takeA (i := 24) (v := ?_) rfl (by kernel_rfl) (by kernel_rfl) (by kernel_rfl) (of_decide_eq_true (by kernel_rfl)) (fun _ _ _ h => h) (by rfl) (fun w5 hS5 => ?_) HSC ?_
  rotate_left
  · obtain ⟨h1, h2⟩ := hS5
    clear h1 h2
    go_simp
    try rfl
  try simp only [Act.put, List.setIfInBounds_toArray, List.set_cons_zero, List.set_cons_succ]
  clear HSC
  refine Rg.Upto.done (by kernel_rfl) ?_
  go_wp2_with (fail)
  go_ret
  exact ⟨by first | rfl | trivial, HB.out⟩
end Go.Proofs.Yteankgbcmfkfnaa.Cl

/- A machine that sets an object's mark, as a block; what makes one, what it tells, its step. -/
import Derived.Test.YtcnledehnefldaaLay
import Derived.Test.YtcnledehnefldaaPHx6
namespace Go.Proofs.Ytcnledehnefldaa.Ar
open Go Go.RowKit Go.Proofs.Ytcnledehnefldaa.Hp Go.Proofs.Ytcnledehnefldaa.PH
open Go.Proofs.YtcnledehnefldaaW.PrintWords (shl shr)
set_option linter.unusedVariables false
set_option linter.unusedSimpArgs false

/-- The word with the one bit; is it none of a word's? As the walk writes them. -/
abbrev bitOf (b : Int) : Int := IntKind.u64.wrap (2 ^ min b.toNat 64)
abbrev bitIn (x b : Int) : Bool := Go.bits .and .u64 (x / 2 ^ min b.toNat 64) 1 == 0
structure MS where
  P : Int
  T : Int
  R : Int
  ref : Int
  done : Bool
  fresh : Bool
def MS.cells (s : MS) : Array Value := #[.int .i64 s.P, .int .i64 s.T, .int .i64 s.R, .int .u64 s.ref, .bool s.done, .bool s.fresh]
def IsMark (w : World) (m : Nat) (s : MS) : Prop := w.heap[m]? = some (.cells s.cells 95 (0, 0))
theorem IsMark.below {w w' : World} {m : Nat} {s : MS} (h : IsMark w m s) (hb : Below w.heap.size w w') : IsMark w' m s := (hb.block m (blk_lt h)).trans h

set_option maxHeartbeats 1000000 in
theorem newMark_yes (w : World) (P T R ref : Int) (b : Int) (hb : layout_Plan_Base.f P T R = some b) (h0 : 0 ≤ b) (hr : ref ≠ 0) (hf : layout_Plan_Ref.f P T R ref = some true) :
    Calls Try.prog 10 #[.agg #[.int .i64 P, .int .i64 T, .int .i64 R], .int .u64 ref] w fun e w' => ∃ m, e = .returned (.tuple #[.pointer (some ⟨m, 0, none⟩), .int .i64 0]) ∧ w.heap.size ≤ m ∧ IsMark w' m ⟨P, T, R, ref, false, false⟩ ∧ Below w.heap.size w w' := by
  have KBase := Lib.hid hb
  have KRef := Lib.hid hf
  have e1 : decide (b < 0) = false := decide_eq_false (by omega)
  have e2 : (ref != 0) = true := by simp [hr]
  have e3 : (ref == 0) = false := by simp [hr]
  clear hb hf hr h0
  have KB := Lib.hid (Hp.blk_new w (.cells #[.int .i64 P, .int .i64 T, .int .i64 R] 34))
  have HB := Lib.hid ((Below.refl w.heap.size w).alloc (Nat.le_refl _) (.cells #[.int .i64 P, .int .i64 T, .int .i64 R] 34))
  (obtain ⟨c0, -⟩ := Hp.blk_cell KB.out 0 rfl)
  (obtain ⟨c1, -⟩ := Hp.blk_cell KB.out 1 rfl)
  (obtain ⟨c2, -⟩ := Hp.blk_cell KB.out 2 rfl)
  go_enter Try.func10, Try.ntmps10
  go_wp2_with (first | (go_at_call 43; (refine (layout_Plan_Base.calls P T R b _ KBase.out).mono ?_; rintro e w2 ⟨rfl, hb⟩; replace KB := Lib.hid (blk_below KB.out hb); replace HB := Lib.hid (HB.out.trans (hb.mono HB.out.size)); clear hb; (obtain ⟨c0, -⟩ := Hp.blk_cell KB.out 0 rfl); (obtain ⟨c1, -⟩ := Hp.blk_cell KB.out 1 rfl); (obtain ⟨c2, -⟩ := Hp.blk_cell KB.out 2 rfl))) | (go_at_call 44; (refine (layout_Plan_Ref.calls P T R ref true _ KRef.out).mono ?_; rintro e w2 ⟨rfl, hb⟩; replace KB := Lib.hid (blk_below KB.out hb); replace HB := Lib.hid (HB.out.trans (hb.mono HB.out.size)); clear hb; (obtain ⟨c0, -⟩ := Hp.blk_cell KB.out 0 rfl); (obtain ⟨c1, -⟩ := Hp.blk_cell KB.out 1 rfl); (obtain ⟨c2, -⟩ := Hp.blk_cell KB.out 2 rfl))))
  go_ret2
  exact ⟨_, rfl, HB.out.size, Hp.blk_new w2 _, HB.out.alloc HB.out.size _⟩

set_option maxHeartbeats 1000000 in
theorem newMark_zero (w : World) (P T R ref : Int) (b : Int) (hb : layout_Plan_Base.f P T R = some b) (h0 : 0 ≤ b) (hr : ref = 0) :
    Calls Try.prog 10 #[.agg #[.int .i64 P, .int .i64 T, .int .i64 R], .int .u64 ref] w fun e w' => ∃ m, e = .returned (.tuple #[.pointer (some ⟨m, 0, none⟩), .int .i64 0]) ∧ w.heap.size ≤ m ∧ IsMark w' m ⟨P, T, R, ref, true, false⟩ ∧ Below w.heap.size w w' := by
  subst hr
  have KBase := Lib.hid hb
  have e1 : decide (b < 0) = false := decide_eq_false (by omega)
  clear hb h0
  have KB := Lib.hid (Hp.blk_new w (.cells #[.int .i64 P, .int .i64 T, .int .i64 R] 34))
  have HB := Lib.hid ((Below.refl w.heap.size w).alloc (Nat.le_refl _) (.cells #[.int .i64 P, .int .i64 T, .int .i64 R] 34))
  (obtain ⟨c0, -⟩ := Hp.blk_cell KB.out 0 rfl)
  (obtain ⟨c1, -⟩ := Hp.blk_cell KB.out 1 rfl)
  (obtain ⟨c2, -⟩ := Hp.blk_cell KB.out 2 rfl)
  go_enter Try.func10, Try.ntmps10
  go_wp2_with (first | (go_at_call 43; (refine (layout_Plan_Base.calls P T R b _ KBase.out).mono ?_; rintro e w2 ⟨rfl, hb⟩; replace KB := Lib.hid (blk_below KB.out hb); replace HB := Lib.hid (HB.out.trans (hb.mono HB.out.size)); clear hb; (obtain ⟨c0, -⟩ := Hp.blk_cell KB.out 0 rfl); (obtain ⟨c1, -⟩ := Hp.blk_cell KB.out 1 rfl); (obtain ⟨c2, -⟩ := Hp.blk_cell KB.out 2 rfl))) | (go_at_call 44; (refine (layout_Plan_Ref.calls P T R 0 true _ KBase.out).mono ?_; rintro e w2 ⟨rfl, hb⟩; replace KB := Lib.hid (blk_below KB.out hb); replace HB := Lib.hid (HB.out.trans (hb.mono HB.out.size)); clear hb; (obtain ⟨c0, -⟩ := Hp.blk_cell KB.out 0 rfl); (obtain ⟨c1, -⟩ := Hp.blk_cell KB.out 1 rfl); (obtain ⟨c2, -⟩ := Hp.blk_cell KB.out 2 rfl))))
  go_ret2
  exact ⟨_, rfl, HB.out.size, Hp.blk_new w2 _, HB.out.alloc HB.out.size _⟩

set_option maxHeartbeats 1000000 in
theorem newMark_plan (w : World) (P T R ref : Int) (b : Int) (hb : layout_Plan_Base.f P T R = some b) (h0 : b < 0) :
    Calls Try.prog 10 #[.agg #[.int .i64 P, .int .i64 T, .int .i64 R], .int .u64 ref] w fun e w' => e = .returned (.tuple #[.pointer none, .int .i64 1]) ∧ Below w.heap.size w w' := by
  have KBase := Lib.hid hb
  have e1 : decide (b < 0) = true := decide_eq_true (by omega)
  clear hb h0
  have KB := Lib.hid (Hp.blk_new w (.cells #[.int .i64 P, .int .i64 T, .int .i64 R] 34))
  have HB := Lib.hid ((Below.refl w.heap.size w).alloc (Nat.le_refl _) (.cells #[.int .i64 P, .int .i64 T, .int .i64 R] 34))
  (obtain ⟨c0, -⟩ := Hp.blk_cell KB.out 0 rfl)
  (obtain ⟨c1, -⟩ := Hp.blk_cell KB.out 1 rfl)
  (obtain ⟨c2, -⟩ := Hp.blk_cell KB.out 2 rfl)
  go_enter Try.func10, Try.ntmps10
  go_wp2_with (first | (go_at_call 43; (refine (layout_Plan_Base.calls P T R b _ KBase.out).mono ?_; rintro e w2 ⟨rfl, hb⟩; replace KB := Lib.hid (blk_below KB.out hb); replace HB := Lib.hid (HB.out.trans (hb.mono HB.out.size)); clear hb; (obtain ⟨c0, -⟩ := Hp.blk_cell KB.out 0 rfl); (obtain ⟨c1, -⟩ := Hp.blk_cell KB.out 1 rfl); (obtain ⟨c2, -⟩ := Hp.blk_cell KB.out 2 rfl))) | (go_at_call 44; (refine (layout_Plan_Ref.calls P T R ref true _ KBase.out).mono ?_; rintro e w2 ⟨rfl, hb⟩; replace KB := Lib.hid (blk_below KB.out hb); replace HB := Lib.hid (HB.out.trans (hb.mono HB.out.size)); clear hb; (obtain ⟨c0, -⟩ := Hp.blk_cell KB.out 0 rfl); (obtain ⟨c1, -⟩ := Hp.blk_cell KB.out 1 rfl); (obtain ⟨c2, -⟩ := Hp.blk_cell KB.out 2 rfl))))
  go_ret2
  exact ⟨rfl, HB.out⟩

set_option maxHeartbeats 1000000 in
theorem newMark_addr (w : World) (P T R ref : Int) (b : Int) (hb : layout_Plan_Base.f P T R = some b) (h0 : 0 ≤ b) (hr : ref ≠ 0) (hf : layout_Plan_Ref.f P T R ref = some false) :
    Calls Try.prog 10 #[.agg #[.int .i64 P, .int .i64 T, .int .i64 R], .int .u64 ref] w fun e w' => e = .returned (.tuple #[.pointer none, .int .i64 5]) ∧ Below w.heap.size w w' := by
  have KBase := Lib.hid hb
  have KRef := Lib.hid hf
  have e1 : decide (b < 0) = false := decide_eq_false (by omega)
  have e2 : (ref != 0) = true := by simp [hr]
  clear hb hf hr h0
  have KB := Lib.hid (Hp.blk_new w (.cells #[.int .i64 P, .int .i64 T, .int .i64 R] 34))
  have HB := Lib.hid ((Below.refl w.heap.size w).alloc (Nat.le_refl _) (.cells #[.int .i64 P, .int .i64 T, .int .i64 R] 34))
  (obtain ⟨c0, -⟩ := Hp.blk_cell KB.out 0 rfl)
  (obtain ⟨c1, -⟩ := Hp.blk_cell KB.out 1 rfl)
  (obtain ⟨c2, -⟩ := Hp.blk_cell KB.out 2 rfl)
  go_enter Try.func10, Try.ntmps10
  go_wp2_with (first | (go_at_call 43; (refine (layout_Plan_Base.calls P T R b _ KBase.out).mono ?_; rintro e w2 ⟨rfl, hb⟩; replace KB := Lib.hid (blk_below KB.out hb); replace HB := Lib.hid (HB.out.trans (hb.mono HB.out.size)); clear hb; (obtain ⟨c0, -⟩ := Hp.blk_cell KB.out 0 rfl); (obtain ⟨c1, -⟩ := Hp.blk_cell KB.out 1 rfl); (obtain ⟨c2, -⟩ := Hp.blk_cell KB.out 2 rfl))) | (go_at_call 44; (refine (layout_Plan_Ref.calls P T R ref false _ KRef.out).mono ?_; rintro e w2 ⟨rfl, hb⟩; replace KB := Lib.hid (blk_below KB.out hb); replace HB := Lib.hid (HB.out.trans (hb.mono HB.out.size)); clear hb; (obtain ⟨c0, -⟩ := Hp.blk_cell KB.out 0 rfl); (obtain ⟨c1, -⟩ := Hp.blk_cell KB.out 1 rfl); (obtain ⟨c2, -⟩ := Hp.blk_cell KB.out 2 rfl))))
  go_ret2
  exact ⟨rfl, HB.out⟩

theorem mark_over (w : World) (m : Nat) (s : MS) (h : IsMark w m s) : Calls Try.prog 15 #[.pointer (some ⟨m, 0, none⟩)] w fun e w' => e = .returned (.bool s.done) ∧ w' = w := by
  obtain ⟨c4, -⟩ := Hp.blk_cell h 4 (v := .bool s.done) rfl
  clear h
  go_enter Try.func15, Try.ntmps15
  go_wp2
  go_ret
  exact ⟨rfl, rfl⟩
theorem mark_over_nil (w : World) : Calls Try.prog 15 #[.pointer none] w fun e w' => e = .returned (.bool true) ∧ w' = w := by
  go_enter Try.func15, Try.ntmps15
  go_wp2
  go_ret
  exact ⟨rfl, rfl⟩

theorem mark_fresh (w : World) (m : Nat) (s : MS) (h : IsMark w m s) : Calls Try.prog 16 #[.pointer (some ⟨m, 0, none⟩)] w fun e w' => e = .returned (.bool s.fresh) ∧ w' = w := by
  obtain ⟨c5, -⟩ := Hp.blk_cell h 5 (v := .bool s.fresh) rfl
  clear h
  go_enter Try.func16, Try.ntmps16
  go_wp2
  go_ret
  exact ⟨rfl, rfl⟩
theorem mark_fresh_nil (w : World) : Calls Try.prog 16 #[.pointer none] w fun e w' => e = .returned (.bool false) ∧ w' = w := by
  go_enter Try.func16, Try.ntmps16
  go_wp2
  go_ret
  exact ⟨rfl, rfl⟩

set_option maxRecDepth 100000 in
theorem mark_step_nil (w : World) (p : Value) : Calls Try.prog 14 #[.pointer none, p] w fun e w' => e = .returned (.bool true) ∧ w' = w := by
  go_enter Try.func14, Try.ntmps14
  go_wp2
  go_ret
  exact ⟨rfl, rfl⟩
set_option maxRecDepth 100000 in
theorem mark_step_over (w : World) (m : Nat) (s : MS) (p : Value) (h : IsMark w m s) (h4 : s.done = true) : Calls Try.prog 14 #[.pointer (some ⟨m, 0, none⟩), p] w fun e w' => e = .returned (.bool true) ∧ w' = w := by
  obtain ⟨c4, -⟩ := Hp.blk_cell h 4 (v := .bool s.done) rfl
  rw [h4] at c4
  clear h h4
  go_enter Try.func14, Try.ntmps14
  go_wp2
  go_ret
  exact ⟨rfl, rfl⟩
set_option maxRecDepth 100000 in
theorem mark_step_shut {B : Nat} {w : World} {a c p : Nat} {s : AS} {who : Int} {ps : List (Nat × Int × Bool)} (hs : Sys B w a c s ps) (i : Nat) (hi : ps[i]? = some (p, who, false)) (m : Nat) (x : MS) (h : IsMark w m x) (h4 : x.done = false) :
    Calls Try.prog 14 #[.pointer (some ⟨m, 0, none⟩), .pointer (some ⟨p, 0, none⟩)] w fun e w' => e = .returned (.bool false) ∧ w' = w := by
  obtain ⟨c4, -⟩ := Hp.blk_cell h 4 (v := .bool x.done) rfl
  rw [h4] at c4
  have hm := hs.open_ i hi
  clear h h4
  go_enter Try.func14, Try.ntmps14
  go_wp2_with (first | (go_at_call 47; (refine hm.mono ?_; clear hm; rintro e w2 ⟨rfl, rfl⟩)))
  go_ret
  exact ⟨rfl, rfl⟩

set_option maxHeartbeats 2000000 in
set_option maxRecDepth 100000 in
theorem mark_step_go {B : Nat} {w : World} {a c p : Nat} {s : AS} {who : Int} {ps : List (Nat × Int × Bool)} {P T R ref pg b q : Int} {fr : Bool} (hs : Sys B w a c s ps) (i : Nat) (hi : ps[i]? = some (p, who, true)) (m : Nat) (h : IsMark w m ⟨P, T, R, ref, false, fr⟩) (hB : B ≤ m) (hp : layout_Plan_Place.f P T R (IntKind.i64.wrap ref) = some (pg, b)) (hb0 : 0 ≤ b) (hq : layout_Plan_Mark.f P T R pg = some q) (hl : s.log.length ≤ 1000000) :
    Calls Try.prog 14 #[.pointer (some ⟨m, 0, none⟩), .pointer (some ⟨p, 0, none⟩)] w fun e w' => e = .returned (.bool true) ∧ IsMark w' m ⟨P, T, R, ref, true, bitIn (s.acc true who 5 q 0 (bitOf b)).2 b⟩ ∧ Sys B w' a c (s.acc true who 5 q 0 (bitOf b)).1 (ps.set i (p, who, false)) ∧ Below B w w' ∧ Fr (fun k => k = m ∨ Touch c w k) w w' := by
  have h' : w.heap[m]? = some (.cells #[.int .i64 P, .int .i64 T, .int .i64 R, .int .u64 ref, .bool false, .bool fr] 95 (0, 0)) := h
  have HO := Lib.hid (hs.open_ i hi)
  have HS := Lib.hid hs
  have HPl := Lib.hid hp
  have HQ := Lib.hid hq
  have HI := Lib.hid hi
  have HL := Lib.hid hl
  have Hb0 := Lib.hid hb0
  obtain ⟨c4, -⟩ := Hp.blk_cell h' 4 rfl
  have HP := Lib.hid h'
  have HB := Lib.hid (Below.refl B w)
  have HF := Lib.hid (Fr.refl (fun k => k = m ∨ Touch c w k) w)
  have HBm := Lib.hid hB
  clear hs hi h h' hq hp hl hB hb0
  go_enter Try.func14, Try.ntmps14
  go_upto_region 5 with (first | (go_at_call 47; (refine HO.out.mono ?_; clear HO; rintro e w2 ⟨rfl, rfl⟩)))
  clear c4
  replace HS := Lib.hid (HS.out.still ((Fr.refl _ _).drew))
  replace HB := Lib.hid HB.out.drew
  replace HF := Lib.hid HF.out.drew
  have HP1 : Hid (w2.drew.heap[m]? = some (.cells #[.int .i64 P, .int .i64 T, .int .i64 R, .int .u64 ref, .bool false, .bool fr] 95 (0, 0))) := Lib.hid HP.out
  clear HP
  refine Rg.Upto.start (fun w' => w'.heap[m]? = some (.cells #[.int .i64 P, .int .i64 T, .int .i64 R, .int .u64 ref, .bool false, .bool fr] 95 (0, 0))) 1000 (by kernel_rfl) HP1.out (fun HS0 => ?_)
  have HSC := HS0
  clear HS0
  refine Rg.Upto.takeA (i := 0) (v := ?_) rfl (by kernel_rfl) (by kernel_rfl) (by kernel_rfl) (of_decide_eq_true (by kernel_rfl)) (fun _ _ _ h => h) (by rfl) (fun w5 hS5 => ?_) HSC ?_
  rotate_left
  · clear hS5
    go_simp
    try rfl
  try simp only [Act.put, List.setIfInBounds_toArray, List.set_cons_zero, List.set_cons_succ]
  refine Rg.Upto.takeA (i := 1) (v := ?_) rfl (by kernel_rfl) (by kernel_rfl) (by kernel_rfl) (of_decide_eq_true (by kernel_rfl)) (fun _ _ _ h => h) (by rfl) (fun w5 hS5 => ?_) HSC ?_
  rotate_left
  · clear hS5
    go_simp
    try rfl
  try simp only [Act.put, List.setIfInBounds_toArray, List.set_cons_zero, List.set_cons_succ]
  refine Rg.Upto.takeA (i := 2) (v := ?_) rfl (by kernel_rfl) (by kernel_rfl) (by kernel_rfl) (of_decide_eq_true (by kernel_rfl)) (fun _ _ _ h => h) (by rfl) (fun w5 hS5 => ?_) HSC ?_
  rotate_left
  · clear hS5
    go_simp
    try rfl
  try simp only [Act.put, List.setIfInBounds_toArray, List.set_cons_zero, List.set_cons_succ]
  refine Rg.Upto.takeA (i := 3) (v := ?_) rfl (by kernel_rfl) (by kernel_rfl) (by kernel_rfl) (of_decide_eq_true (by kernel_rfl)) (fun _ _ _ h => h) (by rfl) (fun w5 hS5 => ?_) HSC ?_
  rotate_left
  · have c0 := (Hp.blk_cell hS5 0 rfl).1
    have c1 := (Hp.blk_cell hS5 1 rfl).1
    have c2 := (Hp.blk_cell hS5 2 rfl).1
    clear hS5
    go_simp
    try rfl
  try simp only [Act.put, List.setIfInBounds_toArray, List.set_cons_zero, List.set_cons_succ]
  refine Rg.Upto.takeA (i := 4) (v := ?_) rfl (by kernel_rfl) (by kernel_rfl) (by kernel_rfl) (of_decide_eq_true (by kernel_rfl)) (fun _ _ _ h => h) (by rfl) (fun w5 hS5 => ?_) HSC ?_
  rotate_left
  · clear hS5
    go_simp
    try rfl
  try simp only [Act.put, List.setIfInBounds_toArray, List.set_cons_zero, List.set_cons_succ]
  refine Rg.Upto.takeA (i := 5) (v := ?_) rfl (by kernel_rfl) (by kernel_rfl) (by kernel_rfl) (of_decide_eq_true (by kernel_rfl)) (fun _ _ _ h => h) (by rfl) (fun w5 hS5 => ?_) HSC ?_
  rotate_left
  · clear hS5
    go_simp
    try rfl
  try simp only [Act.put, List.setIfInBounds_toArray, List.set_cons_zero, List.set_cons_succ]
  refine Rg.Upto.takeA (i := 6) (v := ?_) rfl (by kernel_rfl) (by kernel_rfl) (by kernel_rfl) (of_decide_eq_true (by kernel_rfl)) (fun _ _ _ h => h) (by rfl) (fun w5 hS5 => ?_) HSC ?_
  rotate_left
  · clear hS5
    go_simp
    try rfl
  try simp only [Act.put, List.setIfInBounds_toArray, List.set_cons_zero, List.set_cons_succ]
  refine Rg.Upto.takeA (i := 7) (v := ?_) rfl (by kernel_rfl) (by kernel_rfl) (by kernel_rfl) (of_decide_eq_true (by kernel_rfl)) (fun _ _ _ h => h) (by rfl) (fun w5 hS5 => ?_) HSC ?_
  rotate_left
  · have c3 := (Hp.blk_cell hS5 3 rfl).1
    clear hS5
    go_simp
    try rfl
  try simp only [Act.put, List.setIfInBounds_toArray, List.set_cons_zero, List.set_cons_succ]
  refine Rg.Upto.takeA (i := 8) (v := ?_) rfl (by kernel_rfl) (by kernel_rfl) (by kernel_rfl) (of_decide_eq_true (by kernel_rfl)) (fun _ _ _ h => h) (by rfl) (fun w5 hS5 => ?_) HSC ?_
  rotate_left
  · clear hS5
    go_simp
    try rfl
  try simp only [Act.put, List.setIfInBounds_toArray, List.set_cons_zero, List.set_cons_succ]
  refine Rg.Upto.one (i := 9) rfl (by kernel_rfl) (by rfl) (fun KK hK => ?_)
  go_simp
  refine (layout_Plan_Place.calls P T R (IntKind.i64.wrap ref) pg b _ HPl.out).mono ?_
  rintro e w3 ⟨rfl, hb⟩
  have HP := Lib.hid (blk_below HP1.out hb)
  clear HP1 HSC
  replace HB := Lib.hid (HB.out.trans (hb.mono HS.out.base.1))
  replace HS := Lib.hid (HS.out.below hb)
  replace HF := Lib.hid (HF.out.below hb)
  refine hK.out _ _ HP.out ?_
  clear hK KK hb
  try simp only [Act.put, List.setIfInBounds_toArray, List.set_cons_zero, List.set_cons_succ]
  have HSC := HP.out
  refine Rg.Upto.takeA (i := 10) (v := ?_) rfl (by kernel_rfl) (by kernel_rfl) (by kernel_rfl) (of_decide_eq_true (by kernel_rfl)) (fun _ _ _ h => h) (by rfl) (fun w5 hS5 => ?_) HSC ?_
  rotate_left
  · clear hS5
    go_simp
    try rfl
  try simp only [Act.put, List.setIfInBounds_toArray, List.set_cons_zero, List.set_cons_succ]
  refine Rg.Upto.takeA (i := 11) (v := ?_) rfl (by kernel_rfl) (by kernel_rfl) (by kernel_rfl) (of_decide_eq_true (by kernel_rfl)) (fun _ _ _ h => h) (by rfl) (fun w5 hS5 => ?_) HSC ?_
  rotate_left
  · clear hS5
    go_simp
    try rfl
  try simp only [Act.put, List.setIfInBounds_toArray, List.set_cons_zero, List.set_cons_succ]
  refine Rg.Upto.takeA (i := 12) (v := ?_) rfl (by kernel_rfl) (by kernel_rfl) (by kernel_rfl) (of_decide_eq_true (by kernel_rfl)) (fun _ _ _ h => h) (by rfl) (fun w5 hS5 => ?_) HSC ?_
  rotate_left
  · clear hS5
    go_simp
    try rfl
  try simp only [Act.put, List.setIfInBounds_toArray, List.set_cons_zero, List.set_cons_succ]
  refine Rg.Upto.takeA (i := 13) (v := ?_) rfl (by kernel_rfl) (by kernel_rfl) (by kernel_rfl) (of_decide_eq_true (by kernel_rfl)) (fun _ _ _ h => h) (by rfl) (fun w5 hS5 => ?_) HSC ?_
  rotate_left
  · clear hS5
    go_simp
    try rfl
  try simp only [Act.put, List.setIfInBounds_toArray, List.set_cons_zero, List.set_cons_succ]
  refine Rg.Upto.takeA (i := 14) (v := ?_) rfl (by kernel_rfl) (by kernel_rfl) (by kernel_rfl) (of_decide_eq_true (by kernel_rfl)) (fun _ _ _ h => h) (by rfl) (fun w5 hS5 => ?_) HSC ?_
  rotate_left
  · clear hS5
    go_simp
    try rfl
  try simp only [Act.put, List.setIfInBounds_toArray, List.set_cons_zero, List.set_cons_succ]
  refine Rg.Upto.done (by kernel_rfl) ?_
  clear HSC
  go_upto_region 6 with (fail)
  replace HS := Lib.hid (HS.out.still ((Fr.refl _ _).drew))
  replace HB := Lib.hid HB.out.drew
  replace HF := Lib.hid HF.out.drew
  have HP1 : Hid (w3.drew.heap[m]? = some (.cells #[.int .i64 P, .int .i64 T, .int .i64 R, .int .u64 ref, .bool false, .bool fr] 95 (0, 0))) := Lib.hid HP.out
  clear HP
  refine Rg.Upto.start (fun w' => w'.heap[m]? = some (.cells #[.int .i64 P, .int .i64 T, .int .i64 R, .int .u64 ref, .bool false, .bool fr] 95 (0, 0))) 1000 (by kernel_rfl) HP1.out (fun HS0 => ?_)
  have HSC := HS0
  clear HS0
  refine Rg.Upto.takeA (i := 0) (v := ?_) rfl (by kernel_rfl) (by kernel_rfl) (by kernel_rfl) (of_decide_eq_true (by kernel_rfl)) (fun _ _ _ h => h) (by rfl) (fun w5 hS5 => ?_) HSC ?_
  rotate_left
  · clear hS5
    go_simp
    try rfl
  try simp only [Act.put, List.setIfInBounds_toArray, List.set_cons_zero, List.set_cons_succ]
  refine Rg.Upto.takeA (i := 1) (v := ?_) rfl (by kernel_rfl) (by kernel_rfl) (by kernel_rfl) (of_decide_eq_true (by kernel_rfl)) (fun _ _ _ h => h) (by rfl) (fun w5 hS5 => ?_) HSC ?_
  rotate_left
  · clear hS5
    go_simp
    try rfl
  try simp only [Act.put, List.setIfInBounds_toArray, List.set_cons_zero, List.set_cons_succ]
  refine Rg.Upto.takeA (i := 2) (v := ?_) rfl (by kernel_rfl) (by kernel_rfl) (by kernel_rfl) (of_decide_eq_true (by kernel_rfl)) (fun _ _ _ h => h) (by rfl) (fun w5 hS5 => ?_) HSC ?_
  rotate_left
  · clear hS5
    go_simp
    try rfl
  try simp only [Act.put, List.setIfInBounds_toArray, List.set_cons_zero, List.set_cons_succ]
  refine Rg.Upto.takeA (i := 3) (v := ?_) rfl (by kernel_rfl) (by kernel_rfl) (by kernel_rfl) (of_decide_eq_true (by kernel_rfl)) (fun _ _ _ h => h) (by rfl) (fun w5 hS5 => ?_) HSC ?_
  rotate_left
  · clear hS5
    go_simp
    try rfl
  try simp only [Act.put, List.setIfInBounds_toArray, List.set_cons_zero, List.set_cons_succ]
  refine Rg.Upto.takeA (i := 4) (v := ?_) rfl (by kernel_rfl) (by kernel_rfl) (by kernel_rfl) (of_decide_eq_true (by kernel_rfl)) (fun _ _ _ h => h) (by rfl) (fun w5 hS5 => ?_) HSC ?_
  rotate_left
  · have c0 := (Hp.blk_cell hS5 0 rfl).1
    have c1 := (Hp.blk_cell hS5 1 rfl).1
    have c2 := (Hp.blk_cell hS5 2 rfl).1
    clear hS5
    go_simp
    try rfl
  try simp only [Act.put, List.setIfInBounds_toArray, List.set_cons_zero, List.set_cons_succ]
  refine Rg.Upto.takeA (i := 5) (v := ?_) rfl (by kernel_rfl) (by kernel_rfl) (by kernel_rfl) (of_decide_eq_true (by kernel_rfl)) (fun _ _ _ h => h) (by rfl) (fun w5 hS5 => ?_) HSC ?_
  rotate_left
  · clear hS5
    go_simp
    try rfl
  try simp only [Act.put, List.setIfInBounds_toArray, List.set_cons_zero, List.set_cons_succ]
  refine Rg.Upto.takeA (i := 7) (v := ?_) rfl (by kernel_rfl) (by kernel_rfl) (by kernel_rfl) (of_decide_eq_true (by kernel_rfl)) (fun _ _ _ h => h) (by rfl) (fun w5 hS5 => ?_) HSC ?_
  rotate_left
  · clear hS5
    go_simp
    try rfl
  try simp only [Act.put, List.setIfInBounds_toArray, List.set_cons_zero, List.set_cons_succ]
  refine Rg.Upto.takeA (i := 8) (v := ?_) rfl (by kernel_rfl) (by kernel_rfl) (by kernel_rfl) (of_decide_eq_true (by kernel_rfl)) (fun _ _ _ h => h) (by rfl) (fun w5 hS5 => ?_) HSC ?_
  rotate_left
  · clear hS5
    have hb0 := Hb0.out
    go_simp
    try rfl
  try simp only [Act.put, List.setIfInBounds_toArray, List.set_cons_zero, List.set_cons_succ]
  refine Rg.Upto.one (i := 6) rfl (by kernel_rfl) (by rfl) (fun KK hK => ?_)
  go_simp
  refine (layout_Plan_Mark.calls P T R pg q _ HQ.out).mono ?_
  rintro e w4 ⟨rfl, hb⟩
  have HP := Lib.hid (blk_below HP1.out hb)
  clear HP1 HSC
  replace HB := Lib.hid (HB.out.trans (hb.mono HS.out.base.1))
  replace HS := Lib.hid (HS.out.below hb)
  replace HF := Lib.hid (HF.out.below hb)
  refine hK.out _ _ HP.out ?_
  clear hK KK hb
  try simp only [Act.put, List.setIfInBounds_toArray, List.set_cons_zero, List.set_cons_succ]
  obtain ⟨sn, hsn⟩ : ∃ sn, sn = (s.acc true who 5 q 0 (bitOf b)).2 := ⟨_, rfl⟩
  have HSN := Lib.hid hsn
  clear hsn
  refine Rg.Upto.one (i := 9) rfl (by kernel_rfl) (by rfl) (fun KK hK => ?_)
  go_simp
  have hm := HS.out.or_ i q (bitOf b) HI.out HL.out
  rw [← HSN.out] at hm
  refine hm.mono ?_
  clear hm
  rintro e w5 ⟨rfl, hD⟩
  have HP1 := Lib.hid (hD.fr.blk HP.out (not_touch HP.out (blk_ne HP.out (sys_cel HS.out) (by decide)) (by decide)))
  have hF2 := HF.out.then hD.fr (touch_back HF.out)
  replace HB := Lib.hid (HB.out.trans hD.bel)
  clear HF HS HP
  have HF := Lib.hid hF2
  have HS := Lib.hid hD.sys
  refine hK.out _ _ HP1.out ?_
  clear hK KK hD hF2
  have HSC := HP1.out
  try simp only [Act.put, List.setIfInBounds_toArray, List.set_cons_zero, List.set_cons_succ]
  refine Rg.Upto.takeA (i := 10) (v := ?_) rfl (by kernel_rfl) (by kernel_rfl) (by kernel_rfl) (of_decide_eq_true (by kernel_rfl)) (fun _ _ _ h => h) (by rfl) (fun w5 hS5 => ?_) HSC ?_
  rotate_left
  · clear hS5
    go_simp
    try rfl
  try simp only [Act.put, List.setIfInBounds_toArray, List.set_cons_zero, List.set_cons_succ]
  refine Rg.Upto.done (by kernel_rfl) ?_
  clear HSC
  have hb0 := Hb0.out
  obtain ⟨c5, d5⟩ := Hp.blk_cell HP1.out 5 rfl
  have HP2 := Lib.hid (Hp.blk_set HP1.out 5 (.bool (bitIn sn b)))
  obtain ⟨c4, d4⟩ := Hp.blk_cell HP2.out 4 rfl
  go_wp2_with (fail)
  go_ret
  have hnt := not_touch HP1.out (blk_ne HP1.out (sys_cel HS.out) (by decide)) (by decide)
  rw [← HSN.out]
  exact ⟨rfl, Hp.blk_set HP2.out 4 _, HS.out.fr (((Fr.refl (fun k => k = m) w5).setCell ⟨m, 5, none⟩ (.bool (bitIn sn b)) (.inl rfl)).setCell ⟨m, 4, none⟩ (.bool true) (.inl rfl)) (fun k _ e => by subst e; exact hnt), (HB.out.setCell (p := ⟨m, 5, none⟩) HBm.out _).setCell (p := ⟨m, 4, none⟩) HBm.out _, (HF.out.setCell ⟨m, 5, none⟩ _ (.inl (.inl rfl))).setCell ⟨m, 4, none⟩ _ (.inl (.inl rfl))⟩
end Go.Proofs.Ytcnledehnefldaa.Ar

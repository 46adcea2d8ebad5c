/- An arena of a plan, with a port. -/
import Derived.Test.YtcnledehnefldaaRng
import Derived.Test.YtcnledehnefldaaPHx6
namespace Go.Proofs.Ytcnledehnefldaa.Ar
open Go Go.RowKit Go.Proofs.Ytcnledehnefldaa.Hp Go.Proofs.Ytcnledehnefldaa.PH
set_option linter.unusedVariables false
set_option linter.unusedSimpArgs false

theorem below_fr {w w' : World} (h : Fr (fun _ => False) w w') : Below w.heap.size w w' := ⟨h.os, h.tape, h.output, h.size, fun k hk => h.block k hk id⟩
set_option maxHeartbeats 2000000 in
set_option maxRecDepth 100000 in
theorem lay (w : World) (P T R who : Int) (N k : Nat) (hc : windrowref06_Cells.f k P T R = some (N : Int)) (h1 : 1 ≤ N) (h2 : N ≤ 4096) (h3 : 0 ≤ who) (h4 : who ≤ 15) :
    Calls Try.prog 24 #[.agg #[.int .i64 P, .int .i64 T, .int .i64 R], .int .i64 who] w fun e w' => ∃ a c p, e = .returned (.tuple #[.pointer (some ⟨a, 0, none⟩), .pointer (some ⟨p, 0, none⟩), .bool true]) ∧ Sys w.heap.size w' a c ⟨List.replicate N 0, [], true, 0, 0⟩ [(p, who, false)] ∧ Below w.heap.size w w' := by
  have HC := Lib.hid hc
  have H12 := Lib.hid (And.intro h1 h2)
  have H34 := Lib.hid (And.intro h3 h4)
  have KB := Lib.hid (Hp.blk_new w (.cells #[.int .i64 P, .int .i64 T, .int .i64 R] 23))
  have HB := Lib.hid ((Below.refl w.heap.size w).alloc (Nat.le_refl _) (.cells #[.int .i64 P, .int .i64 T, .int .i64 R] 23))
  clear hc h1 h2 h3 h4
  go_enter Try.func24, Try.ntmps24
  go_wp2_with (first
    | (go_at_call 31; (refine (windrowref06_Cells.calls k P T R N _ HC.out).mono ?_; rintro e w2 ⟨rfl, hb⟩; replace HB := Lib.hid (HB.out.trans (hb.mono (by have := HB.out.size; first | exact HB.out.size | exact Nat.le_refl _ | omega))); clear hb))
    | (go_at_call 55; (refine (sys_new w.heap.size _ N true H12.out.1 H12.out.2 HB.out.size).mono ?_; rintro e w3 ⟨a, c, rfl, hS, hb, -, -⟩; (have HS := Lib.hid hS); replace HB := Lib.hid (HB.out.trans (hb.mono HB.out.size)); clear hS hb))
    | (go_at_call 56; (refine (HS.out.port who H34.out.1 H34.out.2).mono ?_; rintro e w4 ⟨p, rfl, hS, hb, -⟩; (have HS2 := Lib.hid hS); replace HB := Lib.hid (HB.out.trans (hb.mono HB.out.size)); clear hS hb)))
  have hr : ∀ (x y z : Value) (tmps : Array Value), True := fun _ _ _ _ => trivial
  refine bodyPost_ret (results_tmp3 rfl _ _ _) rfl ?_
  exact ⟨a, c, p, rfl, HS2.out, HB.out⟩
end Go.Proofs.Ytcnledehnefldaa.Ar
/- A machine that sets an object's mark, as a block; what makes one, what it tells, its step. -/
namespace Go.Proofs.Ytcnledehnefldaa.Ar
open Go Go.RowKit Go.Proofs.Ytcnledehnefldaa.Hp Go.Proofs.Ytcnledehnefldaa.PH
open Go.Proofs.YtcnledehnefldaaW.PrintWords (shl shr)
set_option linter.unusedVariables false
set_option linter.unusedSimpArgs false

/-- The word with the one bit; is it none of a word's? As the walk writes them. -/
abbrev bitOf (b : Int) : Int := IntKind.u64.wrap (2 ^ min b.toNat 64)
abbrev bitIn (x b : Int) : Bool := Go.bits .and .u64 (x / 2 ^ min b.toNat 64) 1 == 0
structure MS where
  P : Int
  T : Int
  R : Int
  ref : Int
  done : Bool
  fresh : Bool
def MS.cells (s : MS) : Array Value := #[.int .i64 s.P, .int .i64 s.T, .int .i64 s.R, .int .u64 s.ref, .bool s.done, .bool s.fresh]
def IsMark (w : World) (m : Nat) (s : MS) : Prop := w.heap[m]? = some (.cells s.cells 95 (0, 0))
theorem IsMark.below {w w' : World} {m : Nat} {s : MS} (h : IsMark w m s) (hb : Below w.heap.size w w') : IsMark w' m s := (hb.block m (blk_lt h)).trans h

set_option maxHeartbeats 1000000 in
theorem newMark_yes (w : World) (P T R ref : Int) (b : Int) (hb : layout_Plan_Base.f P T R = some b) (h0 : 0 ≤ b) (hr : ref ≠ 0) (hf : layout_Plan_Ref.f P T R ref = some true) :
    Calls Try.prog 10 #[.agg #[.int .i64 P, .int .i64 T, .int .i64 R], .int .u64 ref] w fun e w' => ∃ m, e = .returned (.tuple #[.pointer (some ⟨m, 0, none⟩), .int .i64 0]) ∧ w.heap.size ≤ m ∧ IsMark w' m ⟨P, T, R, ref, false, false⟩ ∧ Below w.heap.size w w' := by
  have KBase := Lib.hid hb
  have KRef := Lib.hid hf
  have e1 : decide (b < 0) = false := decide_eq_false (by omega)
  have e2 : (ref != 0) = true := by simp [hr]
  have e3 : (ref == 0) = false := by simp [hr]
  clear hb hf hr h0
  have KB := Lib.hid (Hp.blk_new w (.cells #[.int .i64 P, .int .i64 T, .int .i64 R] 34))
  have HB := Lib.hid ((Below.refl w.heap.size w).alloc (Nat.le_refl _) (.cells #[.int .i64 P, .int .i64 T, .int .i64 R] 34))
  (obtain ⟨c0, -⟩ := Hp.blk_cell KB.out 0 rfl)
  (obtain ⟨c1, -⟩ := Hp.blk_cell KB.out 1 rfl)
  (obtain ⟨c2, -⟩ := Hp.blk_cell KB.out 2 rfl)
  go_enter Try.func10, Try.ntmps10
  go_wp2_with (first | (go_at_call 43; (refine (layout_Plan_Base.calls P T R b _ KBase.out).mono ?_; rintro e w2 ⟨rfl, hb⟩; replace KB := Lib.hid (blk_below KB.out hb); replace HB := Lib.hid (HB.out.trans (hb.mono HB.out.size)); clear hb; (obtain ⟨c0, -⟩ := Hp.blk_cell KB.out 0 rfl); (obtain ⟨c1, -⟩ := Hp.blk_cell KB.out 1 rfl); (obtain ⟨c2, -⟩ := Hp.blk_cell KB.out 2 rfl))) | (go_at_call 44; (refine (layout_Plan_Ref.calls P T R ref true _ KRef.out).mono ?_; rintro e w2 ⟨rfl, hb⟩; replace KB := Lib.hid (blk_below KB.out hb); replace HB := Lib.hid (HB.out.trans (hb.mono HB.out.size)); clear hb; (obtain ⟨c0, -⟩ := Hp.blk_cell KB.out 0 rfl); (obtain ⟨c1, -⟩ := Hp.blk_cell KB.out 1 rfl); (obtain ⟨c2, -⟩ := Hp.blk_cell KB.out 2 rfl))))
  go_ret2
  exact ⟨_, rfl, HB.out.size, Hp.blk_new w2 _, HB.out.alloc HB.out.size _⟩

set_option maxHeartbeats 1000000 in
theorem newMark_zero (w : World) (P T R ref : Int) (b : Int) (hb : layout_Plan_Base.f P T R = some b) (h0 : 0 ≤ b) (hr : ref = 0) :
    Calls Try.prog 10 #[.agg #[.int .i64 P, .int .i64 T, .int .i64 R], .int .u64 ref] w fun e w' => ∃ m, e = .returned (.tuple #[.pointer (some ⟨m, 0, none⟩), .int .i64 0]) ∧ w.heap.size ≤ m ∧ IsMark w' m ⟨P, T, R, ref, true, false⟩ ∧ Below w.heap.size w w' := by
  subst hr
  have KBase := Lib.hid hb
  have e1 : decide (b < 0) = false := decide_eq_false (by omega)
  clear hb h0
  have KB := Lib.hid (Hp.blk_new w (.cells #[.int .i64 P, .int .i64 T, .int .i64 R] 34))
  have HB := Lib.hid ((Below.refl w.heap.size w).alloc (Nat.le_refl _) (.cells #[.int .i64 P, .int .i64 T, .int .i64 R] 34))
  (obtain ⟨c0, -⟩ := Hp.blk_cell KB.out 0 rfl)
  (obtain ⟨c1, -⟩ := Hp.blk_cell KB.out 1 rfl)
  (obtain ⟨c2, -⟩ := Hp.blk_cell KB.out 2 rfl)
  go_enter Try.func10, Try.ntmps10
  go_wp2_with (first | (go_at_call 43; (refine (layout_Plan_Base.calls P T R b _ KBase.out).mono ?_; rintro e w2 ⟨rfl, hb⟩; replace KB := Lib.hid (blk_below KB.out hb); replace HB := Lib.hid (HB.out.trans (hb.mono HB.out.size)); clear hb; (obtain ⟨c0, -⟩ := Hp.blk_cell KB.out 0 rfl); (obtain ⟨c1, -⟩ := Hp.blk_cell KB.out 1 rfl); (obtain ⟨c2, -⟩ := Hp.blk_cell KB.out 2 rfl))) | (go_at_call 44; (refine (layout_Plan_Ref.calls P T R 0 true _ KBase.out).mono ?_; rintro e w2 ⟨rfl, hb⟩; replace KB := Lib.hid (blk_below KB.out hb); replace HB := Lib.hid (HB.out.trans (hb.mono HB.out.size)); clear hb; (obtain ⟨c0, -⟩ := Hp.blk_cell KB.out 0 rfl); (obtain ⟨c1, -⟩ := Hp.blk_cell KB.out 1 rfl); (obtain ⟨c2, -⟩ := Hp.blk_cell KB.out 2 rfl))))
  go_ret2
  exact ⟨_, rfl, HB.out.size, Hp.blk_new w2 _, HB.out.alloc HB.out.size _⟩

theorem mark_over (w : World) (m : Nat) (s : MS) (h : IsMark w m s) : Calls Try.prog 15 #[.pointer (some ⟨m, 0, none⟩)] w fun e w' => e = .returned (.bool s.done) ∧ w' = w := by
  obtain ⟨c4, -⟩ := Hp.blk_cell h 4 (v := .bool s.done) rfl
  clear h
  go_enter Try.func15, Try.ntmps15
  go_wp2
  go_ret
  exact ⟨rfl, rfl⟩
theorem mark_fresh (w : World) (m : Nat) (s : MS) (h : IsMark w m s) : Calls Try.prog 16 #[.pointer (some ⟨m, 0, none⟩)] w fun e w' => e = .returned (.bool s.fresh) ∧ w' = w := by
  obtain ⟨c5, -⟩ := Hp.blk_cell h 5 (v := .bool s.fresh) rfl
  clear h
  go_enter Try.func16, Try.ntmps16
  go_wp2
  go_ret
  exact ⟨rfl, rfl⟩
set_option maxRecDepth 100000 in
theorem mark_step_over (w : World) (m : Nat) (s : MS) (p : Value) (h : IsMark w m s) (h4 : s.done = true) : Calls Try.prog 14 #[.pointer (some ⟨m, 0, none⟩), p] w fun e w' => e = .returned (.bool true) ∧ w' = w := by
  obtain ⟨c4, -⟩ := Hp.blk_cell h 4 (v := .bool s.done) rfl
  rw [h4] at c4
  clear h h4
  go_enter Try.func14, Try.ntmps14
  go_wp2
  go_ret
  exact ⟨rfl, rfl⟩
set_option maxRecDepth 100000 in
theorem mark_step_shut {B : Nat} {w : World} {a c p : Nat} {s : AS} {who : Int} {ps : List (Nat × Int × Bool)} (hs : Sys B w a c s ps) (i : Nat) (hi : ps[i]? = some (p, who, false)) (m : Nat) (x : MS) (h : IsMark w m x) (h4 : x.done = false) :
    Calls Try.prog 14 #[.pointer (some ⟨m, 0, none⟩), .pointer (some ⟨p, 0, none⟩)] w fun e w' => e = .returned (.bool false) ∧ w' = w := by
  obtain ⟨c4, -⟩ := Hp.blk_cell h 4 (v := .bool x.done) rfl
  rw [h4] at c4
  have hm := hs.open_ i hi
  clear h h4
  go_enter Try.func14, Try.ntmps14
  go_wp2_with (first | (go_at_call 47; (refine hm.mono ?_; clear hm; rintro e w2 ⟨rfl, rfl⟩)))
  go_ret
  exact ⟨rfl, rfl⟩

set_option maxHeartbeats 2000000 in
set_option maxRecDepth 100000 in
theorem mark_step_go {B : Nat} {w : World} {a c p : Nat} {s : AS} {who : Int} {ps : List (Nat × Int × Bool)} {P T R ref pg b q : Int} {fr : Bool} (hs : Sys B w a c s ps) (i : Nat) (hi : ps[i]? = some (p, who, true)) (m : Nat) (h : IsMark w m ⟨P, T, R, ref, false, fr⟩) (hB : B ≤ m) (hp : layout_Plan_Place.f P T R (IntKind.i64.wrap ref) = some (pg, b)) (hb0 : 0 ≤ b) (hq : layout_Plan_Mark.f P T R pg = some q) (hl : s.log.length ≤ 1000000) :
    Calls Try.prog 14 #[.pointer (some ⟨m, 0, none⟩), .pointer (some ⟨p, 0, none⟩)] w fun e w' => e = .returned (.bool true) ∧ IsMark w' m ⟨P, T, R, ref, true, bitIn (s.acc true who 5 q 0 (bitOf b)).2 b⟩ ∧ Sys B w' a c (s.acc true who 5 q 0 (bitOf b)).1 (ps.set i (p, who, false)) ∧ Below B w w' ∧ Fr (fun k => k = m ∨ Touch c w k) w w' := by
  have h' : w.heap[m]? = some (.cells #[.int .i64 P, .int .i64 T, .int .i64 R, .int .u64 ref, .bool false, .bool fr] 95 (0, 0)) := h
  have HO := Lib.hid (hs.open_ i hi)
  have HS := Lib.hid hs
  have HPl := Lib.hid hp
  have HQ := Lib.hid hq
  have HI := Lib.hid hi
  have HL := Lib.hid hl
  have Hb0 := Lib.hid hb0
  obtain ⟨c4, -⟩ := Hp.blk_cell h' 4 rfl
  have HP := Lib.hid h'
  have HB := Lib.hid (Below.refl B w)
  have HF := Lib.hid (Fr.refl (fun k => k = m ∨ Touch c w k) w)
  have HBm := Lib.hid hB
  clear hs hi h h' hq hp hl hB hb0
  go_enter Try.func14, Try.ntmps14
  go_upto_region 5 with (first | (go_at_call 47; (refine HO.out.mono ?_; clear HO; rintro e w2 ⟨rfl, rfl⟩)))
  clear c4
  replace HS := Lib.hid (HS.out.still ((Fr.refl _ _).drew))
  replace HB := Lib.hid HB.out.drew
  replace HF := Lib.hid HF.out.drew
  have HP1 : Hid (w2.drew.heap[m]? = some (.cells #[.int .i64 P, .int .i64 T, .int .i64 R, .int .u64 ref, .bool false, .bool fr] 95 (0, 0))) := Lib.hid HP.out
  clear HP
  refine Rg.Upto.start (fun w' => w'.heap[m]? = some (.cells #[.int .i64 P, .int .i64 T, .int .i64 R, .int .u64 ref, .bool false, .bool fr] 95 (0, 0))) 1000 (by kernel_rfl) HP1.out (fun HS0 => ?_)
  have HSC := HS0
  clear HS0
  refine Rg.Upto.takeA (i := 0) (v := ?_) rfl (by kernel_rfl) (by kernel_rfl) (by kernel_rfl) (of_decide_eq_true (by kernel_rfl)) (fun _ _ _ h => h) (by rfl) (fun w5 hS5 => ?_) HSC ?_
  rotate_left
  · clear hS5
    go_simp
    try rfl
  try simp only [Act.put, List.setIfInBounds_toArray, List.set_cons_zero, List.set_cons_succ]
  refine Rg.Upto.takeA (i := 1) (v := ?_) rfl (by kernel_rfl) (by kernel_rfl) (by kernel_rfl) (of_decide_eq_true (by kernel_rfl)) (fun _ _ _ h => h) (by rfl) (fun w5 hS5 => ?_) HSC ?_
  rotate_left
  · clear hS5
    go_simp
    try rfl
  try simp only [Act.put, List.setIfInBounds_toArray, List.set_cons_zero, List.set_cons_succ]
  refine Rg.Upto.takeA (i := 2) (v := ?_) rfl (by kernel_rfl) (by kernel_rfl) (by kernel_rfl) (of_decide_eq_true (by kernel_rfl)) (fun _ _ _ h => h) (by rfl) (fun w5 hS5 => ?_) HSC ?_
  rotate_left
  · clear hS5
    go_simp
    try rfl
  try simp only [Act.put, List.setIfInBounds_toArray, List.set_cons_zero, List.set_cons_succ]
  refine Rg.Upto.takeA (i := 3) (v := ?_) rfl (by kernel_rfl) (by kernel_rfl) (by kernel_rfl) (of_decide_eq_true (by kernel_rfl)) (fun _ _ _ h => h) (by rfl) (fun w5 hS5 => ?_) HSC ?_
  rotate_left
  · have c0 := (Hp.blk_cell hS5 0 rfl).1
    have c1 := (Hp.blk_cell hS5 1 rfl).1
    have c2 := (Hp.blk_cell hS5 2 rfl).1
    clear hS5
    go_simp
    try rfl
  try simp only [Act.put, List.setIfInBounds_toArray, List.set_cons_zero, List.set_cons_succ]
  refine Rg.Upto.takeA (i := 4) (v := ?_) rfl (by kernel_rfl) (by kernel_rfl) (by kernel_rfl) (of_decide_eq_true (by kernel_rfl)) (fun _ _ _ h => h) (by rfl) (fun w5 hS5 => ?_) HSC ?_
  rotate_left
  · clear hS5
    go_simp
    try rfl
  try simp only [Act.put, List.setIfInBounds_toArray, List.set_cons_zero, List.set_cons_succ]
  refine Rg.Upto.takeA (i := 5) (v := ?_) rfl (by kernel_rfl) (by kernel_rfl) (by kernel_rfl) (of_decide_eq_true (by kernel_rfl)) (fun _ _ _ h => h) (by rfl) (fun w5 hS5 => ?_) HSC ?_
  rotate_left
  · clear hS5
    go_simp
    try rfl
  try simp only [Act.put, List.setIfInBounds_toArray, List.set_cons_zero, List.set_cons_succ]
  refine Rg.Upto.takeA (i := 6) (v := ?_) rfl (by kernel_rfl) (by kernel_rfl) (by kernel_rfl) (of_decide_eq_true (by kernel_rfl)) (fun _ _ _ h => h) (by rfl) (fun w5 hS5 => ?_) HSC ?_
  rotate_left
  · clear hS5
    go_simp
    try rfl
  try simp only [Act.put, List.setIfInBounds_toArray, List.set_cons_zero, List.set_cons_succ]
  refine Rg.Upto.takeA (i := 7) (v := ?_) rfl (by kernel_rfl) (by kernel_rfl) (by kernel_rfl) (of_decide_eq_true (by kernel_rfl)) (fun _ _ _ h => h) (by rfl) (fun w5 hS5 => ?_) HSC ?_
  rotate_left
  · have c3 := (Hp.blk_cell hS5 3 rfl).1
    clear hS5
    go_simp
    try rfl
  try simp only [Act.put, List.setIfInBounds_toArray, List.set_cons_zero, List.set_cons_succ]
  refine Rg.Upto.takeA (i := 8) (v := ?_) rfl (by kernel_rfl) (by kernel_rfl) (by kernel_rfl) (of_decide_eq_true (by kernel_rfl)) (fun _ _ _ h => h) (by rfl) (fun w5 hS5 => ?_) HSC ?_
  rotate_left
  · clear hS5
    go_simp
    try rfl
  try simp only [Act.put, List.setIfInBounds_toArray, List.set_cons_zero, List.set_cons_succ]
  refine Rg.Upto.one (i := 9) rfl (by kernel_rfl) (by rfl) (fun KK hK => ?_)
  go_simp
  refine (layout_Plan_Place.calls P T R (IntKind.i64.wrap ref) pg b _ HPl.out).mono ?_
  rintro e w3 ⟨rfl, hb⟩
  have HP := Lib.hid (blk_below HP1.out hb)
  clear HP1 HSC
  replace HB := Lib.hid (HB.out.trans (hb.mono HS.out.base.1))
  replace HS := Lib.hid (HS.out.below hb)
  replace HF := Lib.hid (HF.out.below hb)
  refine hK.out _ _ HP.out ?_
  clear hK KK hb
  try simp only [Act.put, List.setIfInBounds_toArray, List.set_cons_zero, List.set_cons_succ]
  have HSC := HP.out
  refine Rg.Upto.takeA (i := 10) (v := ?_) rfl (by kernel_rfl) (by kernel_rfl) (by kernel_rfl) (of_decide_eq_true (by kernel_rfl)) (fun _ _ _ h => h) (by rfl) (fun w5 hS5 => ?_) HSC ?_
  rotate_left
  · clear hS5
    go_simp
    try rfl
  try simp only [Act.put, List.setIfInBounds_toArray, List.set_cons_zero, List.set_cons_succ]
  refine Rg.Upto.takeA (i := 11) (v := ?_) rfl (by kernel_rfl) (by kernel_rfl) (by kernel_rfl) (of_decide_eq_true (by kernel_rfl)) (fun _ _ _ h => h) (by rfl) (fun w5 hS5 => ?_) HSC ?_
  rotate_left
  · clear hS5
    go_simp
    try rfl
  try simp only [Act.put, List.setIfInBounds_toArray, List.set_cons_zero, List.set_cons_succ]
  refine Rg.Upto.takeA (i := 12) (v := ?_) rfl (by kernel_rfl) (by kernel_rfl) (by kernel_rfl) (of_decide_eq_true (by kernel_rfl)) (fun _ _ _ h => h) (by rfl) (fun w5 hS5 => ?_) HSC ?_
  rotate_left
  · clear hS5
    go_simp
    try rfl
  try simp only [Act.put, List.setIfInBounds_toArray, List.set_cons_zero, List.set_cons_succ]
  refine Rg.Upto.takeA (i := 13) (v := ?_) rfl (by kernel_rfl) (by kernel_rfl) (by kernel_rfl) (of_decide_eq_true (by kernel_rfl)) (fun _ _ _ h => h) (by rfl) (fun w5 hS5 => ?_) HSC ?_
  rotate_left
  · clear hS5
    go_simp
    try rfl
  try simp only [Act.put, List.setIfInBounds_toArray, List.set_cons_zero, List.set_cons_succ]
  refine Rg.Upto.takeA (i := 14) (v := ?_) rfl (by kernel_rfl) (by kernel_rfl) (by kernel_rfl) (of_decide_eq_true (by kernel_rfl)) (fun _ _ _ h => h) (by rfl) (fun w5 hS5 => ?_) HSC ?_
  rotate_left
  · clear hS5
    go_simp
    try rfl
  try simp only [Act.put, List.setIfInBounds_toArray, List.set_cons_zero, List.set_cons_succ]
  refine Rg.Upto.done (by kernel_rfl) ?_
  clear HSC
  go_upto_region 6 with (fail)
  replace HS := Lib.hid (HS.out.still ((Fr.refl _ _).drew))
  replace HB := Lib.hid HB.out.drew
  replace HF := Lib.hid HF.out.drew
  have HP1 : Hid (w3.drew.heap[m]? = some (.cells #[.int .i64 P, .int .i64 T, .int .i64 R, .int .u64 ref, .bool false, .bool fr] 95 (0, 0))) := Lib.hid HP.out
  clear HP
  refine Rg.Upto.start (fun w' => w'.heap[m]? = some (.cells #[.int .i64 P, .int .i64 T, .int .i64 R, .int .u64 ref, .bool false, .bool fr] 95 (0, 0))) 1000 (by kernel_rfl) HP1.out (fun HS0 => ?_)
  have HSC := HS0
  clear HS0
  refine Rg.Upto.takeA (i := 0) (v := ?_) rfl (by kernel_rfl) (by kernel_rfl) (by kernel_rfl) (of_decide_eq_true (by kernel_rfl)) (fun _ _ _ h => h) (by rfl) (fun w5 hS5 => ?_) HSC ?_
  rotate_left
  · clear hS5
    go_simp
    try rfl
  try simp only [Act.put, List.setIfInBounds_toArray, List.set_cons_zero, List.set_cons_succ]
  refine Rg.Upto.takeA (i := 1) (v := ?_) rfl (by kernel_rfl) (by kernel_rfl) (by kernel_rfl) (of_decide_eq_true (by kernel_rfl)) (fun _ _ _ h => h) (by rfl) (fun w5 hS5 => ?_) HSC ?_
  rotate_left
  · clear hS5
    go_simp
    try rfl
  try simp only [Act.put, List.setIfInBounds_toArray, List.set_cons_zero, List.set_cons_succ]
  refine Rg.Upto.takeA (i := 2) (v := ?_) rfl (by kernel_rfl) (by kernel_rfl) (by kernel_rfl) (of_decide_eq_true (by kernel_rfl)) (fun _ _ _ h => h) (by rfl) (fun w5 hS5 => ?_) HSC ?_
  rotate_left
  · clear hS5
    go_simp
    try rfl
  try simp only [Act.put, List.setIfInBounds_toArray, List.set_cons_zero, List.set_cons_succ]
  refine Rg.Upto.takeA (i := 3) (v := ?_) rfl (by kernel_rfl) (by kernel_rfl) (by kernel_rfl) (of_decide_eq_true (by kernel_rfl)) (fun _ _ _ h => h) (by rfl) (fun w5 hS5 => ?_) HSC ?_
  rotate_left
  · clear hS5
    go_simp
    try rfl
  try simp only [Act.put, List.setIfInBounds_toArray, List.set_cons_zero, List.set_cons_succ]
  refine Rg.Upto.takeA (i := 4) (v := ?_) rfl (by kernel_rfl) (by kernel_rfl) (by kernel_rfl) (of_decide_eq_true (by kernel_rfl)) (fun _ _ _ h => h) (by rfl) (fun w5 hS5 => ?_) HSC ?_
  rotate_left
  · have c0 := (Hp.blk_cell hS5 0 rfl).1
    have c1 := (Hp.blk_cell hS5 1 rfl).1
    have c2 := (Hp.blk_cell hS5 2 rfl).1
    clear hS5
    go_simp
    try rfl
  try simp only [Act.put, List.setIfInBounds_toArray, List.set_cons_zero, List.set_cons_succ]
  refine Rg.Upto.takeA (i := 5) (v := ?_) rfl (by kernel_rfl) (by kernel_rfl) (by kernel_rfl) (of_decide_eq_true (by kernel_rfl)) (fun _ _ _ h => h) (by rfl) (fun w5 hS5 => ?_) HSC ?_
  rotate_left
  · clear hS5
    go_simp
    try rfl
  try simp only [Act.put, List.setIfInBounds_toArray, List.set_cons_zero, List.set_cons_succ]
  refine Rg.Upto.takeA (i := 7) (v := ?_) rfl (by kernel_rfl) (by kernel_rfl) (by kernel_rfl) (of_decide_eq_true (by kernel_rfl)) (fun _ _ _ h => h) (by rfl) (fun w5 hS5 => ?_) HSC ?_
  rotate_left
  · clear hS5
    go_simp
    try rfl
  try simp only [Act.put, List.setIfInBounds_toArray, List.set_cons_zero, List.set_cons_succ]
  refine Rg.Upto.takeA (i := 8) (v := ?_) rfl (by kernel_rfl) (by kernel_rfl) (by kernel_rfl) (of_decide_eq_true (by kernel_rfl)) (fun _ _ _ h => h) (by rfl) (fun w5 hS5 => ?_) HSC ?_
  rotate_left
  · clear hS5
    have hb0 := Hb0.out
    go_simp
    try rfl
  try simp only [Act.put, List.setIfInBounds_toArray, List.set_cons_zero, List.set_cons_succ]
  refine Rg.Upto.one (i := 6) rfl (by kernel_rfl) (by rfl) (fun KK hK => ?_)
  go_simp
  refine (layout_Plan_Mark.calls P T R pg q _ HQ.out).mono ?_
  rintro e w4 ⟨rfl, hb⟩
  have HP := Lib.hid (blk_below HP1.out hb)
  clear HP1 HSC
  replace HB := Lib.hid (HB.out.trans (hb.mono HS.out.base.1))
  replace HS := Lib.hid (HS.out.below hb)
  replace HF := Lib.hid (HF.out.below hb)
  refine hK.out _ _ HP.out ?_
  clear hK KK hb
  try simp only [Act.put, List.setIfInBounds_toArray, List.set_cons_zero, List.set_cons_succ]
  obtain ⟨sn, hsn⟩ : ∃ sn, sn = (s.acc true who 5 q 0 (bitOf b)).2 := ⟨_, rfl⟩
  have HSN := Lib.hid hsn
  clear hsn
  refine Rg.Upto.one (i := 9) rfl (by kernel_rfl) (by rfl) (fun KK hK => ?_)
  go_simp
  have hm := HS.out.or_ i q (bitOf b) HI.out HL.out
  rw [← HSN.out] at hm
  refine hm.mono ?_
  clear hm
  rintro e w5 ⟨rfl, hD⟩
  have HP1 := Lib.hid (hD.fr.blk HP.out (not_touch HP.out (blk_ne HP.out (sys_cel HS.out) (by decide)) (by decide)))
  have hF2 := HF.out.then hD.fr (touch_back HF.out)
  replace HB := Lib.hid (HB.out.trans hD.bel)
  clear HF HS HP
  have HF := Lib.hid hF2
  have HS := Lib.hid hD.sys
  refine hK.out _ _ HP1.out ?_
  clear hK KK hD hF2
  have HSC := HP1.out
  try simp only [Act.put, List.setIfInBounds_toArray, List.set_cons_zero, List.set_cons_succ]
  refine Rg.Upto.takeA (i := 10) (v := ?_) rfl (by kernel_rfl) (by kernel_rfl) (by kernel_rfl) (of_decide_eq_true (by kernel_rfl)) (fun _ _ _ h => h) (by rfl) (fun w5 hS5 => ?_) HSC ?_
  rotate_left
  · clear hS5
    go_simp
    try rfl
  try simp only [Act.put, List.setIfInBounds_toArray, List.set_cons_zero, List.set_cons_succ]
  refine Rg.Upto.done (by kernel_rfl) ?_
  clear HSC
  have hb0 := Hb0.out
  obtain ⟨c5, d5⟩ := Hp.blk_cell HP1.out 5 rfl
  have HP2 := Lib.hid (Hp.blk_set HP1.out 5 (.bool (bitIn sn b)))
  obtain ⟨c4, d4⟩ := Hp.blk_cell HP2.out 4 rfl
  go_wp2_with (fail)
  go_ret
  have hnt := not_touch HP1.out (blk_ne HP1.out (sys_cel HS.out) (by decide)) (by decide)
  rw [← HSN.out]
  exact ⟨rfl, Hp.blk_set HP2.out 4 _, HS.out.fr (((Fr.refl (fun k => k = m) w5).setCell ⟨m, 5, none⟩ (.bool (bitIn sn b)) (.inl rfl)).setCell ⟨m, 4, none⟩ (.bool true) (.inl rfl)) (fun k _ e => by subst e; exact hnt), (HB.out.setCell (p := ⟨m, 5, none⟩) HBm.out _).setCell (p := ⟨m, 4, none⟩) HBm.out _, (HF.out.setCell ⟨m, 5, none⟩ _ (.inl (.inl rfl))).setCell ⟨m, 4, none⟩ _ (.inl (.inl rfl))⟩
end Go.Proofs.Ytcnledehnefldaa.Ar
/- A machine that shades an object, as blocks; what makes one, what it tells, a step of it; its model. -/
namespace Go.Proofs.Ytcnledehnefldaa.Ar
open Go Go.RowKit Go.Proofs.Ytcnledehnefldaa.Hp Go.Proofs.Ytcnledehnefldaa.PH
open Go.Proofs.YtcnledehnefldaaW.PrintWords (shl shr)
set_option linter.unusedVariables false
set_option linter.unusedSimpArgs false

structure SS where
  P : Int
  T : Int
  R : Int
  t : Int
  ref : Int
  at_ : Int
  lost : Bool
  done : Bool
  fresh : Bool
  pat : Int
  hd : Int
  tl : Int
  full : Bool
def SS.ms (x : SS) : MS := ⟨x.P, x.T, x.R, x.ref, x.done, x.fresh⟩
def SS.ps (x : SS) : PS := ⟨x.P, x.T, x.R, x.t, x.ref, x.pat, x.hd, x.tl, x.full⟩
def ShB (w : World) (m mk : Nat) (pu : Option Addr) (at_ : Int) (lost : Bool) : Prop := w.heap[m]? = some (.cells #[.pointer (some ⟨mk, 0, none⟩), .pointer pu, .int .i64 at_, .bool lost] 98 (0, 0))
structure IsShade (w : World) (m mk pu : Nat) (x : SS) : Prop where
  blk : ShB w m mk (some ⟨pu, 0, none⟩) x.at_ x.lost
  mrk : IsMark w mk x.ms
  psh : IsPush w pu x.ps
theorem ShB.below {w w' : World} {m mk : Nat} {pu : Option Addr} {at_ : Int} {lost : Bool} (h : ShB w m mk pu at_ lost) (hb : Below w.heap.size w w') : ShB w' m mk pu at_ lost := (hb.block m (blk_lt h)).trans h
theorem IsShade.below {w w' : World} {m mk pu : Nat} {x : SS} (h : IsShade w m mk pu x) (hb : Below w.heap.size w w') : IsShade w' m mk pu x := ⟨h.blk.below hb, h.mrk.below hb, h.psh.below hb⟩
theorem IsShade.fr {S : Nat → Prop} {w w' : World} {m mk pu : Nat} {x : SS} (h : IsShade w m mk pu x) (hF : Fr S w w') (h1 : ¬ S m) (h2 : ¬ S mk) (h3 : ¬ S pu) : IsShade w' m mk pu x := ⟨hF.blk h.blk h1, hF.blk h.mrk h2, hF.blk h.psh h3⟩
theorem IsShade.ne {w : World} {m mk pu : Nat} {x : SS} (h : IsShade w m mk pu x) : m ≠ mk ∧ m ≠ pu ∧ mk ≠ pu := ⟨blk_ne h.blk h.mrk (by decide), blk_ne h.blk h.psh (by decide), blk_ne h.mrk h.psh (by decide)⟩
theorem IsShade.free {B : Nat} {w : World} {a c m mk pu : Nat} {s : AS} {ps : List (Nat × Int × Bool)} {x : SS} (h : IsShade w m mk pu x) (hs : Sys B w a c s ps) : ¬ Touch c w m ∧ ¬ Touch c w mk ∧ ¬ Touch c w pu :=
  ⟨not_touch h.blk (blk_ne h.blk (sys_cel hs) (by decide)) (by decide), not_touch h.mrk (blk_ne h.mrk (sys_cel hs) (by decide)) (by decide), not_touch h.psh (blk_ne h.psh (sys_cel hs) (by decide)) (by decide)⟩
theorem fr_wide {S S' : Nat → Prop} {w w' : World} (hF : Fr S w w') (h : ∀ k, S k → S' k) : Fr S' w w' := hF.mono fun k _ hk => h k hk

theorem shade_over (w : World) (m mk : Nat) (pu : Option Addr) (at_ : Int) (lost : Bool) (h : ShB w m mk pu at_ lost) : Calls Try.prog 18 #[.pointer (some ⟨m, 0, none⟩)] w fun e w' => e = .returned (.bool (at_ == 3)) ∧ w' = w := by
  obtain ⟨c2, -⟩ := Hp.blk_cell h 2 rfl
  clear h
  go_enter Try.func18, Try.ntmps18
  go_wp2
  go_ret
  exact ⟨rfl, rfl⟩
theorem shade_lost (w : World) (m mk : Nat) (pu : Option Addr) (at_ : Int) (lost : Bool) (h : ShB w m mk pu at_ lost) : Calls Try.prog 20 #[.pointer (some ⟨m, 0, none⟩)] w fun e w' => e = .returned (.bool lost) ∧ w' = w := by
  obtain ⟨c3, -⟩ := Hp.blk_cell h 3 rfl
  clear h
  go_enter Try.func20, Try.ntmps20
  go_wp2
  go_ret
  exact ⟨rfl, rfl⟩
theorem shade_fresh (w : World) (m mk : Nat) (pu : Option Addr) (at_ : Int) (lost : Bool) (h : ShB w m mk pu at_ lost) (s : MS) (hm : IsMark w mk s) : Calls Try.prog 19 #[.pointer (some ⟨m, 0, none⟩)] w fun e w' => e = .returned (.bool s.fresh) ∧ w' = w := by
  obtain ⟨c0, -⟩ := Hp.blk_cell h 0 rfl
  have hf := mark_fresh w mk s hm
  clear h hm
  go_enter Try.func19, Try.ntmps19
  go_wp2_with (first | (go_at_call 16; (refine hf.mono ?_; clear hf; rintro e w2 ⟨rfl, hw⟩; obtain rfl := hw.symm)))
  go_ret
  exact ⟨rfl, rfl⟩
theorem shade_held (w : World) (m mk : Nat) (pu : Option Addr) (at_ : Int) (lost : Bool) (h : ShB w m mk pu at_ lost) (s : MS) (hm : IsMark w mk s) : Calls Try.prog 21 #[.pointer (some ⟨m, 0, none⟩)] w fun e w' => e = .returned (.int .u64 (if at_ = 1 ∨ at_ = 2 then s.ref else 0)) ∧ w' = w := by
  obtain ⟨c0, -⟩ := Hp.blk_cell h 0 rfl
  obtain ⟨c2, -⟩ := Hp.blk_cell h 2 rfl
  obtain ⟨d3, -⟩ := Hp.blk_cell hm 3 (v := .int .u64 s.ref) rfl
  clear h hm
  by_cases h1 : at_ = 1
  · subst h1
    go_enter Try.func21, Try.ntmps21
    go_wp2
    go_ret
    exact ⟨rfl, rfl⟩
  · by_cases h2 : at_ = 2
    · subst h2
      clear h1
      go_enter Try.func21, Try.ntmps21
      go_wp2
      go_ret
      exact ⟨rfl, rfl⟩
    · have e1 : (at_ != 1) = true := by simp [h1]
      have e2 : (at_ != 2) = true := by simp [h2]
      have e3 : (if at_ = 1 ∨ at_ = 2 then s.ref else 0) = 0 := if_neg (fun z => z.elim h1 h2)
      rw [e3]
      clear h1 h2 e3
      go_enter Try.func21, Try.ntmps21
      go_wp2
      go_ret
      exact ⟨rfl, rfl⟩
set_option maxRecDepth 100000 in
theorem shade_step_over (w : World) (m mk : Nat) (pu : Option Addr) (lost : Bool) (p : Value) (h : ShB w m mk pu 3 lost) : Calls Try.prog 17 #[.pointer (some ⟨m, 0, none⟩), p] w fun e w' => e = .returned (.bool true) ∧ w' = w := by
  obtain ⟨c2, -⟩ := Hp.blk_cell h 2 rfl
  clear h
  go_enter Try.func17, Try.ntmps17
  go_wp2
  go_ret
  exact ⟨rfl, rfl⟩
set_option maxRecDepth 100000 in
theorem shade_step_shut {B : Nat} {w : World} {a c p : Nat} {s : AS} {who : Int} {ps : List (Nat × Int × Bool)} (hs : Sys B w a c s ps) (i : Nat) (hi : ps[i]? = some (p, who, false)) (m mk : Nat) (pu : Option Addr) (at_ : Int) (lost : Bool) (h : ShB w m mk pu at_ lost) (h4 : at_ ≠ 3) :
    Calls Try.prog 17 #[.pointer (some ⟨m, 0, none⟩), .pointer (some ⟨p, 0, none⟩)] w fun e w' => e = .returned (.bool false) ∧ w' = w := by
  obtain ⟨c2, -⟩ := Hp.blk_cell h 2 rfl
  have h5 : (at_ == 3) = false := by simp [h4]
  have hm := hs.open_ i hi
  clear h h4
  go_enter Try.func17, Try.ntmps17
  go_wp2_with (first | (go_at_call 47; (refine hm.mono ?_; clear hm; rintro e w2 ⟨rfl, rfl⟩)))
  go_ret
  exact ⟨rfl, rfl⟩

set_option maxHeartbeats 2000000 in
set_option maxRecDepth 100000 in
theorem shade_mark_fresh {B : Nat} {w : World} {a c p : Nat} {s s' : AS} {who : Int} {ps : List (Nat × Int × Bool)} (hs : Sys B w a c s ps) (i : Nat) (hi : ps[i]? = some (p, who, true)) (m mk pu : Nat) (hB : B ≤ m) (lost : Bool) (h : ShB w m mk (some ⟨pu, 0, none⟩) 0 lost) (x : MS) (hx : x.fresh = true) (hne : m ≠ mk)
    (hstep : Calls Try.prog 14 #[.pointer (some ⟨mk, 0, none⟩), .pointer (some ⟨p, 0, none⟩)] w fun e w' => e = .returned (.bool true) ∧ IsMark w' mk x ∧ Sys B w' a c s' (ps.set i (p, who, false)) ∧ Below B w w' ∧ Fr (fun k => k = mk ∨ Touch c w k) w w') :
    Calls Try.prog 17 #[.pointer (some ⟨m, 0, none⟩), .pointer (some ⟨p, 0, none⟩)] w fun e w' => e = .returned (.bool false) ∧ ShB w' m mk (some ⟨pu, 0, none⟩) 1 lost ∧ IsMark w' mk x ∧ Sys B w' a c s' (ps.set i (p, who, false)) ∧ Below B w w' ∧ Fr (fun k => k = m ∨ k = mk ∨ Touch c w k) w w' := by
  have HO := Lib.hid (hs.open_ i hi)
  have HS := Lib.hid hs
  have HBm := Lib.hid hB
  have HX := Lib.hid hx
  have HNE := Lib.hid hne
  have HST := Lib.hid hstep
  have HK := Lib.hid h
  obtain ⟨c0, -⟩ := Hp.blk_cell h 0 rfl
  obtain ⟨c2, -⟩ := Hp.blk_cell h 2 rfl
  clear hs hi hB hx hstep h hne
  go_enter Try.func17, Try.ntmps17
  go_upto_region 8 with (first
    | (go_at_call 47; (refine HO.out.mono ?_; clear HO; rintro e w2 ⟨rfl, rfl⟩))
    | (go_at_call 14; (refine HST.out.mono ?_; clear HST; rintro e w3 ⟨rfl, hM, hS3, hb, hF⟩)))
  have HK3 := Lib.hid (hF.blk HK.out (fun z => z.elim HNE.out (not_touch HK.out (blk_ne HK.out (sys_cel HS.out) (by decide)) (by decide))))
  have HM := Lib.hid hM
  have HS3 := Lib.hid hS3
  have HB := Lib.hid hb
  have HF : Hid (Fr (fun k => k = m ∨ k = mk ∨ Touch c w2 k) w2 w3) := Lib.hid (fr_wide hF (fun k hk => hk.elim (fun e => .inr (.inl e)) (fun e => .inr (.inr e))))
  clear hM hS3 hb hF HS HK c0 c2
  obtain ⟨c2, d2⟩ := Hp.blk_cell HK3.out 2 rfl
  have HK4 := Lib.hid (Hp.blk_set HK3.out 2 (.int .i64 3))
  have HM4 : Hid (IsMark (w3.setCell ⟨m, 2, none⟩ (.int .i64 3)) mk x) := Lib.hid (((Fr.refl (fun k => k = m) w3).setCell ⟨m, 2, none⟩ (.int .i64 3) (.inl rfl)).blk HM.out (fun e => HNE.out e.symm))
  have hnt := not_touch HK3.out (blk_ne HK3.out (sys_cel HS3.out) (by decide)) (by decide)
  have HS4 : Hid (Sys B (w3.setCell ⟨m, 2, none⟩ (.int .i64 3)) a c s' (ps.set i (p, who, false))) := Lib.hid (HS3.out.other hnt 2 _)
  replace HB := Lib.hid (HB.out.setCell (p := ⟨m, 2, none⟩) HBm.out (.int .i64 3))
  replace HF := Lib.hid (HF.out.setCell ⟨m, 2, none⟩ (.int .i64 3) (.inl (.inl rfl)))
  clear hnt HK3 HM HS3
  go_upto_region 9 with (fail)
  clear c2 d2
  generalize w3.setCell ⟨m, 2, none⟩ (.int .i64 3) = w4 at HK4 HM4 HS4 HB HF ⊢
  obtain ⟨c0, -⟩ := Hp.blk_cell HK4.out 0 rfl
  obtain ⟨c2, d2⟩ := Hp.blk_cell HK4.out 2 rfl
  have hfr := mark_fresh w4 mk x HM4.out
  rw [HX.out] at hfr
  have HK5 := Lib.hid (Hp.blk_set HK4.out 2 (.int .i64 1))
  obtain ⟨c2', -⟩ := Hp.blk_cell HK5.out 2 rfl
  go_wp2_with (first | (go_at_call 16; (refine hfr.mono ?_; clear hfr; rintro e w5 ⟨rfl, hw⟩; obtain rfl := hw.symm)))
  go_ret
  have hnt := not_touch HK4.out (blk_ne HK4.out (sys_cel HS4.out) (by decide)) (by decide)
  exact ⟨rfl, HK5.out, ((Fr.refl (fun k => k = m) w4).setCell ⟨m, 2, none⟩ (.int .i64 1) (.inl rfl)).blk HM4.out (fun e => HNE.out e.symm), HS4.out.other hnt 2 _, HB.out.setCell (p := ⟨m, 2, none⟩) HBm.out _, HF.out.setCell ⟨m, 2, none⟩ _ (.inl (.inl rfl))⟩

set_option maxHeartbeats 2000000 in
set_option maxRecDepth 100000 in
theorem shade_mark_stale {B : Nat} {w : World} {a c p : Nat} {s s' : AS} {who : Int} {ps : List (Nat × Int × Bool)} (hs : Sys B w a c s ps) (i : Nat) (hi : ps[i]? = some (p, who, true)) (m mk pu : Nat) (hB : B ≤ m) (lost : Bool) (h : ShB w m mk (some ⟨pu, 0, none⟩) 0 lost) (x : MS) (hx : x.fresh = false) (hne : m ≠ mk)
    (hstep : Calls Try.prog 14 #[.pointer (some ⟨mk, 0, none⟩), .pointer (some ⟨p, 0, none⟩)] w fun e w' => e = .returned (.bool true) ∧ IsMark w' mk x ∧ Sys B w' a c s' (ps.set i (p, who, false)) ∧ Below B w w' ∧ Fr (fun k => k = mk ∨ Touch c w k) w w') :
    Calls Try.prog 17 #[.pointer (some ⟨m, 0, none⟩), .pointer (some ⟨p, 0, none⟩)] w fun e w' => e = .returned (.bool true) ∧ ShB w' m mk (some ⟨pu, 0, none⟩) 3 lost ∧ IsMark w' mk x ∧ Sys B w' a c s' (ps.set i (p, who, false)) ∧ Below B w w' ∧ Fr (fun k => k = m ∨ k = mk ∨ Touch c w k) w w' := by
  have HO := Lib.hid (hs.open_ i hi)
  have HS := Lib.hid hs
  have HBm := Lib.hid hB
  have HX := Lib.hid hx
  have HNE := Lib.hid hne
  have HST := Lib.hid hstep
  have HK := Lib.hid h
  obtain ⟨c0, -⟩ := Hp.blk_cell h 0 rfl
  obtain ⟨c2, -⟩ := Hp.blk_cell h 2 rfl
  clear hs hi hB hx hstep h hne
  go_enter Try.func17, Try.ntmps17
  go_upto_region 8 with (first
    | (go_at_call 47; (refine HO.out.mono ?_; clear HO; rintro e w2 ⟨rfl, rfl⟩))
    | (go_at_call 14; (refine HST.out.mono ?_; clear HST; rintro e w3 ⟨rfl, hM, hS3, hb, hF⟩)))
  have HK3 := Lib.hid (hF.blk HK.out (fun z => z.elim HNE.out (not_touch HK.out (blk_ne HK.out (sys_cel HS.out) (by decide)) (by decide))))
  have HM := Lib.hid hM
  have HS3 := Lib.hid hS3
  have HB := Lib.hid hb
  have HF : Hid (Fr (fun k => k = m ∨ k = mk ∨ Touch c w2 k) w2 w3) := Lib.hid (fr_wide hF (fun k hk => hk.elim (fun e => .inr (.inl e)) (fun e => .inr (.inr e))))
  clear hM hS3 hb hF HS HK c0 c2
  obtain ⟨c2, d2⟩ := Hp.blk_cell HK3.out 2 rfl
  have HK4 := Lib.hid (Hp.blk_set HK3.out 2 (.int .i64 3))
  have HM4 : Hid (IsMark (w3.setCell ⟨m, 2, none⟩ (.int .i64 3)) mk x) := Lib.hid (((Fr.refl (fun k => k = m) w3).setCell ⟨m, 2, none⟩ (.int .i64 3) (.inl rfl)).blk HM.out (fun e => HNE.out e.symm))
  have hnt := not_touch HK3.out (blk_ne HK3.out (sys_cel HS3.out) (by decide)) (by decide)
  have HS4 : Hid (Sys B (w3.setCell ⟨m, 2, none⟩ (.int .i64 3)) a c s' (ps.set i (p, who, false))) := Lib.hid (HS3.out.other hnt 2 _)
  replace HB := Lib.hid (HB.out.setCell (p := ⟨m, 2, none⟩) HBm.out (.int .i64 3))
  replace HF := Lib.hid (HF.out.setCell ⟨m, 2, none⟩ (.int .i64 3) (.inl (.inl rfl)))
  clear hnt HK3 HM HS3
  go_upto_region 9 with (fail)
  clear c2 d2
  generalize w3.setCell ⟨m, 2, none⟩ (.int .i64 3) = w4 at HK4 HM4 HS4 HB HF ⊢
  obtain ⟨c0, -⟩ := Hp.blk_cell HK4.out 0 rfl
  obtain ⟨c2, d2⟩ := Hp.blk_cell HK4.out 2 rfl
  have hfr := mark_fresh w4 mk x HM4.out
  rw [HX.out] at hfr
  go_wp2_with (first | (go_at_call 16; (refine hfr.mono ?_; clear hfr; rintro e w5 ⟨rfl, hw⟩; obtain rfl := hw.symm)))
  go_ret
  exact ⟨rfl, HK4.out, HM4.out, HS4.out, HB.out, HF.out⟩

set_option maxHeartbeats 2000000 in
set_option maxRecDepth 100000 in
theorem shade_push_on {B : Nat} {w : World} {a c p : Nat} {s s' : AS} {who : Int} {ps : List (Nat × Int × Bool)} (hs : Sys B w a c s ps) (i : Nat) (hi : ps[i]? = some (p, who, true)) (m mk pu : Nat) (hB : B ≤ m) (lost : Bool) (h : ShB w m mk (some ⟨pu, 0, none⟩) 1 lost) (x : PS) (y : MS) (hy : IsMark w mk y) (hne : m ≠ mk) (hnp : m ≠ pu) (hmp : mk ≠ pu)
    (hstep : Calls Try.prog 51 #[.pointer (some ⟨pu, 0, none⟩), .pointer (some ⟨p, 0, none⟩)] w fun e w' => e = .returned (.bool false) ∧ IsPush w' pu x ∧ Sys B w' a c s' (ps.set i (p, who, false)) ∧ Below B w w' ∧ Fr (fun k => k = pu ∨ Touch c w k) w w') :
    Calls Try.prog 17 #[.pointer (some ⟨m, 0, none⟩), .pointer (some ⟨p, 0, none⟩)] w fun e w' => e = .returned (.bool false) ∧ ShB w' m mk (some ⟨pu, 0, none⟩) 1 lost ∧ IsPush w' pu x ∧ IsMark w' mk y ∧ Sys B w' a c s' (ps.set i (p, who, false)) ∧ Below B w w' ∧ Fr (fun k => k = m ∨ k = mk ∨ k = pu ∨ Touch c w k) w w' := by
  have HO := Lib.hid (hs.open_ i hi)
  have HS := Lib.hid hs
  have HBm := Lib.hid hB
  have HNE := Lib.hid hne
  have HNP := Lib.hid hnp
  have HMP := Lib.hid hmp
  have HST := Lib.hid hstep
  have HK := Lib.hid h
  have HY := Lib.hid hy
  obtain ⟨c1, -⟩ := Hp.blk_cell h 1 rfl
  obtain ⟨c2, -⟩ := Hp.blk_cell h 2 rfl
  clear hs hi hB hstep h hne hnp hmp hy
  go_enter Try.func17, Try.ntmps17
  go_upto_region 19 with (first
    | (go_at_call 47; (refine HO.out.mono ?_; clear HO; rintro e w2 ⟨rfl, rfl⟩))
    | (go_at_call 51; (refine HST.out.mono ?_; clear HST; rintro e w3 ⟨rfl, hP, hS3, hb, hF⟩)))
  have HK3 := Lib.hid (hF.blk HK.out (fun z => z.elim HNP.out (not_touch HK.out (blk_ne HK.out (sys_cel HS.out) (by decide)) (by decide))))
  have HM3 := Lib.hid (hF.blk HY.out (fun z => z.elim HMP.out (not_touch HY.out (blk_ne HY.out (sys_cel HS.out) (by decide)) (by decide))))
  have HP3 := Lib.hid hP
  have HS3 := Lib.hid hS3
  have HB := Lib.hid hb
  have HF : Hid (Fr (fun k => k = m ∨ k = mk ∨ k = pu ∨ Touch c w2 k) w2 w3) := Lib.hid (fr_wide hF (fun k hk => hk.elim (fun e => .inr (.inr (.inl e))) (fun e => .inr (.inr (.inr e)))))
  clear hP hS3 hb hF HS HK HY c1 c2
  obtain ⟨c2, d2⟩ := Hp.blk_cell HK3.out 2 rfl
  go_wp2_with (fail)
  go_ret
  exact ⟨rfl, HK3.out, HP3.out, HM3.out, HS3.out, HB.out, HF.out⟩

set_option maxHeartbeats 2000000 in
set_option maxRecDepth 100000 in
theorem shade_push_end {B : Nat} {w : World} {a c p : Nat} {s s' : AS} {who : Int} {ps : List (Nat × Int × Bool)} (hs : Sys B w a c s ps) (i : Nat) (hi : ps[i]? = some (p, who, true)) (m mk pu : Nat) (hB : B ≤ m) (lost : Bool) (h : ShB w m mk (some ⟨pu, 0, none⟩) 1 lost) (x : PS) (y : MS) (hy : IsMark w mk y) (hx : x.full = false) (hne : m ≠ mk) (hnp : m ≠ pu) (hmp : mk ≠ pu)
    (hstep : Calls Try.prog 51 #[.pointer (some ⟨pu, 0, none⟩), .pointer (some ⟨p, 0, none⟩)] w fun e w' => e = .returned (.bool true) ∧ IsPush w' pu x ∧ Sys B w' a c s' (ps.set i (p, who, false)) ∧ Below B w w' ∧ Fr (fun k => k = pu ∨ Touch c w k) w w') :
    Calls Try.prog 17 #[.pointer (some ⟨m, 0, none⟩), .pointer (some ⟨p, 0, none⟩)] w fun e w' => e = .returned (.bool true) ∧ ShB w' m mk (some ⟨pu, 0, none⟩) 3 lost ∧ IsPush w' pu x ∧ IsMark w' mk y ∧ Sys B w' a c s' (ps.set i (p, who, false)) ∧ Below B w w' ∧ Fr (fun k => k = m ∨ k = mk ∨ k = pu ∨ Touch c w k) w w' := by
  have HO := Lib.hid (hs.open_ i hi)
  have HS := Lib.hid hs
  have HBm := Lib.hid hB
  have HX := Lib.hid hx
  have HNE := Lib.hid hne
  have HNP := Lib.hid hnp
  have HMP := Lib.hid hmp
  have HST := Lib.hid hstep
  have HK := Lib.hid h
  have HY := Lib.hid hy
  obtain ⟨c1, -⟩ := Hp.blk_cell h 1 rfl
  obtain ⟨c2, -⟩ := Hp.blk_cell h 2 rfl
  clear hs hi hB hx hstep h hne hnp hmp hy
  go_enter Try.func17, Try.ntmps17
  go_upto_region 13 with (first
    | (go_at_call 47; (refine HO.out.mono ?_; clear HO; rintro e w2 ⟨rfl, rfl⟩))
    | (go_at_call 51; (refine HST.out.mono ?_; clear HST; rintro e w3 ⟨rfl, hP, hS3, hb, hF⟩)))
  have HK3 := Lib.hid (hF.blk HK.out (fun z => z.elim HNP.out (not_touch HK.out (blk_ne HK.out (sys_cel HS.out) (by decide)) (by decide))))
  have HM3 := Lib.hid (hF.blk HY.out (fun z => z.elim HMP.out (not_touch HY.out (blk_ne HY.out (sys_cel HS.out) (by decide)) (by decide))))
  have HP3 := Lib.hid hP
  have HS3 := Lib.hid hS3
  have HB := Lib.hid hb
  have HF : Hid (Fr (fun k => k = m ∨ k = mk ∨ k = pu ∨ Touch c w2 k) w2 w3) := Lib.hid (fr_wide hF (fun k hk => hk.elim (fun e => .inr (.inr (.inl e))) (fun e => .inr (.inr (.inr e)))))
  clear hP hS3 hb hF HS HK HY c1 c2
  obtain ⟨c2, d2⟩ := Hp.blk_cell HK3.out 2 rfl
  obtain ⟨c1, -⟩ := Hp.blk_cell HK3.out 1 rfl
  have HK4 := Lib.hid (Hp.blk_set HK3.out 2 (.int .i64 3))
  have HP4 : Hid (IsPush (w3.setCell ⟨m, 2, none⟩ (.int .i64 3)) pu x) := Lib.hid (((Fr.refl (fun k => k = m) w3).setCell ⟨m, 2, none⟩ (.int .i64 3) (.inl rfl)).blk HP3.out (fun e => HNP.out e.symm))
  have HM4 : Hid (IsMark (w3.setCell ⟨m, 2, none⟩ (.int .i64 3)) mk y) := Lib.hid (((Fr.refl (fun k => k = m) w3).setCell ⟨m, 2, none⟩ (.int .i64 3) (.inl rfl)).blk HM3.out (fun e => HNE.out e.symm))
  have hnt := not_touch HK3.out (blk_ne HK3.out (sys_cel HS3.out) (by decide)) (by decide)
  have HS4 : Hid (Sys B (w3.setCell ⟨m, 2, none⟩ (.int .i64 3)) a c s' (ps.set i (p, who, false))) := Lib.hid (HS3.out.other hnt 2 _)
  replace HB := Lib.hid (HB.out.setCell (p := ⟨m, 2, none⟩) HBm.out (.int .i64 3))
  replace HF := Lib.hid (HF.out.setCell ⟨m, 2, none⟩ (.int .i64 3) (.inl (.inl rfl)))
  clear hnt HK3 HM3 HP3 HS3 c1
  go_upto_region 14 with (fail)
  clear c2 d2
  generalize w3.setCell ⟨m, 2, none⟩ (.int .i64 3) = w4 at HK4 HM4 HP4 HS4 HB HF ⊢
  obtain ⟨c1, -⟩ := Hp.blk_cell HK4.out 1 rfl
  obtain ⟨c2, d2⟩ := Hp.blk_cell HK4.out 2 rfl
  have hfr := push_full w4 pu x HP4.out
  rw [HX.out] at hfr
  go_wp2_with (first | (go_at_call 52; (refine hfr.mono ?_; clear hfr; rintro e w5 ⟨rfl, hw⟩; obtain rfl := hw.symm)))
  go_ret
  exact ⟨rfl, HK4.out, HP4.out, HM4.out, HS4.out, HB.out, HF.out⟩

set_option maxHeartbeats 2000000 in
set_option maxRecDepth 100000 in
theorem shade_push_full {B : Nat} {w : World} {a c p : Nat} {s s' : AS} {who : Int} {ps : List (Nat × Int × Bool)} (hs : Sys B w a c s ps) (i : Nat) (hi : ps[i]? = some (p, who, true)) (m mk pu : Nat) (hB : B ≤ m) (lost : Bool) (h : ShB w m mk (some ⟨pu, 0, none⟩) 1 lost) (x : PS) (y : MS) (hy : IsMark w mk y) (hx : x.full = true) (hne : m ≠ mk) (hnp : m ≠ pu) (hmp : mk ≠ pu)
    (hstep : Calls Try.prog 51 #[.pointer (some ⟨pu, 0, none⟩), .pointer (some ⟨p, 0, none⟩)] w fun e w' => e = .returned (.bool true) ∧ IsPush w' pu x ∧ Sys B w' a c s' (ps.set i (p, who, false)) ∧ Below B w w' ∧ Fr (fun k => k = pu ∨ Touch c w k) w w') :
    Calls Try.prog 17 #[.pointer (some ⟨m, 0, none⟩), .pointer (some ⟨p, 0, none⟩)] w fun e w' => e = .returned (.bool false) ∧ ShB w' m mk (some ⟨pu, 0, none⟩) 2 lost ∧ IsPush w' pu x ∧ IsMark w' mk y ∧ Sys B w' a c s' (ps.set i (p, who, false)) ∧ Below B w w' ∧ Fr (fun k => k = m ∨ k = mk ∨ k = pu ∨ Touch c w k) w w' := by
  have HO := Lib.hid (hs.open_ i hi)
  have HS := Lib.hid hs
  have HBm := Lib.hid hB
  have HX := Lib.hid hx
  have HNE := Lib.hid hne
  have HNP := Lib.hid hnp
  have HMP := Lib.hid hmp
  have HST := Lib.hid hstep
  have HK := Lib.hid h
  have HY := Lib.hid hy
  obtain ⟨c1, -⟩ := Hp.blk_cell h 1 rfl
  obtain ⟨c2, -⟩ := Hp.blk_cell h 2 rfl
  clear hs hi hB hx hstep h hne hnp hmp hy
  go_enter Try.func17, Try.ntmps17
  go_upto_region 13 with (first
    | (go_at_call 47; (refine HO.out.mono ?_; clear HO; rintro e w2 ⟨rfl, rfl⟩))
    | (go_at_call 51; (refine HST.out.mono ?_; clear HST; rintro e w3 ⟨rfl, hP, hS3, hb, hF⟩)))
  have HK3 := Lib.hid (hF.blk HK.out (fun z => z.elim HNP.out (not_touch HK.out (blk_ne HK.out (sys_cel HS.out) (by decide)) (by decide))))
  have HM3 := Lib.hid (hF.blk HY.out (fun z => z.elim HMP.out (not_touch HY.out (blk_ne HY.out (sys_cel HS.out) (by decide)) (by decide))))
  have HP3 := Lib.hid hP
  have HS3 := Lib.hid hS3
  have HB := Lib.hid hb
  have HF : Hid (Fr (fun k => k = m ∨ k = mk ∨ k = pu ∨ Touch c w2 k) w2 w3) := Lib.hid (fr_wide hF (fun k hk => hk.elim (fun e => .inr (.inr (.inl e))) (fun e => .inr (.inr (.inr e)))))
  clear hP hS3 hb hF HS HK HY c1 c2
  obtain ⟨c2, d2⟩ := Hp.blk_cell HK3.out 2 rfl
  obtain ⟨c1, -⟩ := Hp.blk_cell HK3.out 1 rfl
  have HK4 := Lib.hid (Hp.blk_set HK3.out 2 (.int .i64 3))
  have HP4 : Hid (IsPush (w3.setCell ⟨m, 2, none⟩ (.int .i64 3)) pu x) := Lib.hid (((Fr.refl (fun k => k = m) w3).setCell ⟨m, 2, none⟩ (.int .i64 3) (.inl rfl)).blk HP3.out (fun e => HNP.out e.symm))
  have HM4 : Hid (IsMark (w3.setCell ⟨m, 2, none⟩ (.int .i64 3)) mk y) := Lib.hid (((Fr.refl (fun k => k = m) w3).setCell ⟨m, 2, none⟩ (.int .i64 3) (.inl rfl)).blk HM3.out (fun e => HNE.out e.symm))
  have hnt := not_touch HK3.out (blk_ne HK3.out (sys_cel HS3.out) (by decide)) (by decide)
  have HS4 : Hid (Sys B (w3.setCell ⟨m, 2, none⟩ (.int .i64 3)) a c s' (ps.set i (p, who, false))) := Lib.hid (HS3.out.other hnt 2 _)
  replace HB := Lib.hid (HB.out.setCell (p := ⟨m, 2, none⟩) HBm.out (.int .i64 3))
  replace HF := Lib.hid (HF.out.setCell ⟨m, 2, none⟩ (.int .i64 3) (.inl (.inl rfl)))
  clear hnt HK3 HM3 HP3 HS3 c1
  go_upto_region 14 with (fail)
  clear c2 d2
  generalize w3.setCell ⟨m, 2, none⟩ (.int .i64 3) = w4 at HK4 HM4 HP4 HS4 HB HF ⊢
  obtain ⟨c1, -⟩ := Hp.blk_cell HK4.out 1 rfl
  obtain ⟨c2, d2⟩ := Hp.blk_cell HK4.out 2 rfl
  have hfr := push_full w4 pu x HP4.out
  rw [HX.out] at hfr
  have HK5 := Lib.hid (Hp.blk_set HK4.out 2 (.int .i64 2))
  obtain ⟨c2', -⟩ := Hp.blk_cell HK5.out 2 rfl
  go_wp2_with (first | (go_at_call 52; (refine hfr.mono ?_; clear hfr; rintro e w5 ⟨rfl, hw⟩; obtain rfl := hw.symm)))
  go_ret
  have hnt := not_touch HK4.out (blk_ne HK4.out (sys_cel HS4.out) (by decide)) (by decide)
  exact ⟨rfl, HK5.out, ((Fr.refl (fun k => k = m) w4).setCell ⟨m, 2, none⟩ (.int .i64 2) (.inl rfl)).blk HP4.out (fun e => HNP.out e.symm), ((Fr.refl (fun k => k = m) w4).setCell ⟨m, 2, none⟩ (.int .i64 2) (.inl rfl)).blk HM4.out (fun e => HNE.out e.symm), HS4.out.other hnt 2 _, HB.out.setCell (p := ⟨m, 2, none⟩) HBm.out _, HF.out.setCell ⟨m, 2, none⟩ _ (.inl (.inl rfl))⟩

set_option maxHeartbeats 2000000 in
set_option maxRecDepth 100000 in
theorem shade_tell {B : Nat} {w : World} {a c p : Nat} {s s' : AS} {who : Int} {ps : List (Nat × Int × Bool)} (hs : Sys B w a c s ps) (i : Nat) (hi : ps[i]? = some (p, who, true)) (m mk pu : Nat) (hB : B ≤ m) (lost : Bool) (h : ShB w m mk (some ⟨pu, 0, none⟩) 2 lost) (x : PS) (y : MS) (hx : IsPush w pu x) (hy : IsMark w mk y) (hl : s.log.length ≤ 1000000) (hne : m ≠ mk) (hnp : m ≠ pu) (hs' : (s.acc true who 2 4 0 1).1 = s') :
    Calls Try.prog 17 #[.pointer (some ⟨m, 0, none⟩), .pointer (some ⟨p, 0, none⟩)] w fun e w' => e = .returned (.bool true) ∧ ShB w' m mk (some ⟨pu, 0, none⟩) 3 true ∧ IsPush w' pu x ∧ IsMark w' mk y ∧ Sys B w' a c s' (ps.set i (p, who, false)) ∧ Below B w w' ∧ Fr (fun k => k = m ∨ k = mk ∨ k = pu ∨ Touch c w k) w w' := by
  have HO := Lib.hid (hs.open_ i hi)
  have HST := hs.store i 4 1 hi hl
  rw [hs'] at HST
  have HS := Lib.hid hs
  have HBm := Lib.hid hB
  have HNE := Lib.hid hne
  have HNP := Lib.hid hnp
  have HK := Lib.hid h
  have HX := Lib.hid hx
  have HY := Lib.hid hy
  obtain ⟨c2, -⟩ := Hp.blk_cell h 2 rfl
  clear hs hi hB hx h hne hnp hy hl hs'
  go_enter Try.func17, Try.ntmps17
  go_upto_region 18 with (first
    | (go_at_call 47; (refine HO.out.mono ?_; clear HO; rintro e w2 ⟨rfl, rfl⟩))
    | (go_at_call 53; (refine HST.mono ?_; clear HST; rintro e w3 ⟨rfl, hD⟩)))
  have HK3 := Lib.hid (hD.fr.blk HK.out (not_touch HK.out (blk_ne HK.out (sys_cel HS.out) (by decide)) (by decide)))
  have HM3 := Lib.hid (hD.fr.blk HY.out (not_touch HY.out (blk_ne HY.out (sys_cel HS.out) (by decide)) (by decide)))
  have HP3 := Lib.hid (hD.fr.blk HX.out (not_touch HX.out (blk_ne HX.out (sys_cel HS.out) (by decide)) (by decide)))
  have HS3 := Lib.hid hD.sys
  have HB := Lib.hid hD.bel
  have HF : Hid (Fr (fun k => k = m ∨ k = mk ∨ k = pu ∨ Touch c w2 k) w2 w3) := Lib.hid (fr_wide hD.fr (fun k hk => .inr (.inr (.inr hk))))
  clear hD HS HK HY HX c2
  obtain ⟨c2, d2⟩ := Hp.blk_cell HK3.out 2 rfl
  obtain ⟨c3, d3⟩ := Hp.blk_cell HK3.out 3 rfl
  have HK4 := Lib.hid (Hp.blk_set HK3.out 3 (.bool true))
  obtain ⟨c2', d2'⟩ := Hp.blk_cell HK4.out 2 rfl
  have HK5 := Lib.hid (Hp.blk_set HK4.out 2 (.int .i64 3))
  obtain ⟨c2'', d2''⟩ := Hp.blk_cell HK5.out 2 rfl
  go_wp2_with (fail)
  go_ret
  have hnt := not_touch HK3.out (blk_ne HK3.out (sys_cel HS3.out) (by decide)) (by decide)
  have fr2 := ((Fr.refl (fun k => k = m) w3).setCell ⟨m, 3, none⟩ (.bool true) (.inl rfl)).setCell ⟨m, 2, none⟩ (.int .i64 3) (.inl rfl)
  exact ⟨rfl, HK5.out, fr2.blk HP3.out (fun e => HNP.out e.symm), fr2.blk HM3.out (fun e => HNE.out e.symm), HS3.out.fr fr2 (fun k _ e => by subst e; exact hnt), (HB.out.setCell (p := ⟨m, 3, none⟩) HBm.out _).setCell (p := ⟨m, 2, none⟩) HBm.out _, (HF.out.setCell ⟨m, 3, none⟩ _ (.inl (.inl rfl))).setCell ⟨m, 2, none⟩ _ (.inl (.inl rfl))⟩
end Go.Proofs.Ytcnledehnefldaa.Ar
/- What makes a shade; is an object's mark set? -/
namespace Go.Proofs.Ytcnledehnefldaa.Ar
open Go Go.RowKit Go.Proofs.Ytcnledehnefldaa.Hp Go.Proofs.Ytcnledehnefldaa.PH
set_option linter.unusedVariables false
set_option linter.unusedSimpArgs false

set_option maxHeartbeats 2000000 in
set_option maxRecDepth 100000 in
theorem newShade_zero (w : World) (P T R t : Int) (q0 : Int) (hst : layout_Plan_Status.f P T R t = some q0) (h0 : 0 ≤ q0) (b : Int) (hb : layout_Plan_Base.f P T R = some b) (hb0 : 0 ≤ b) :
    Calls Try.prog 12 #[.agg #[.int .i64 P, .int .i64 T, .int .i64 R], .int .i64 t, .int .u64 0] w fun e w' => ∃ m mk, e = .returned (.tuple #[.pointer (some ⟨m, 0, none⟩), .int .i64 0]) ∧ w.heap.size ≤ m ∧ w.heap.size ≤ mk ∧ ShB w' m mk none 3 false ∧ IsMark w' mk ⟨P, T, R, 0, true, false⟩ ∧ Below w.heap.size w w' := by
  have HSt := Lib.hid hst
  have e1 : decide (q0 < 0) = false := decide_eq_false (by omega)
  have HNM := fun w => newMark_zero w P T R 0 b hb hb0 rfl
  clear hst h0 hb hb0
  have KB := Lib.hid (Hp.blk_new w (.cells #[.int .i64 P, .int .i64 T, .int .i64 R] 34))
  have HB := Lib.hid ((Below.refl w.heap.size w).alloc (Nat.le_refl _) (.cells #[.int .i64 P, .int .i64 T, .int .i64 R] 34))
  (obtain ⟨c0, -⟩ := Hp.blk_cell KB.out 0 rfl)
  (obtain ⟨c1, -⟩ := Hp.blk_cell KB.out 1 rfl)
  (obtain ⟨c2, -⟩ := Hp.blk_cell KB.out 2 rfl)
  go_enter Try.func12, Try.ntmps12
  go_upto_region 7 with (first
    | (go_at_call 45; ((with_reducible refine (layout_Plan_Status.calls P T R t q0 _ HSt.out).mono ?_); rintro e w2 ⟨rfl, hb⟩; clear c0 c1 c2; replace KB := Lib.hid (blk_below KB.out hb); replace HB := Lib.hid (HB.out.trans (hb.mono HB.out.size)); (obtain ⟨c0, -⟩ := Hp.blk_cell KB.out 0 rfl); (obtain ⟨c1, -⟩ := Hp.blk_cell KB.out 1 rfl); (obtain ⟨c2, -⟩ := Hp.blk_cell KB.out 2 rfl); clear hb))
    | (go_at_call 10; ((with_reducible refine (HNM _).mono ?_); rintro e w3 ⟨mk, rfl, hlt, hM, hb⟩; (have HM := Lib.hid hM); (have HL := Lib.hid (Nat.le_trans HB.out.size hlt)); clear c0 c1 c2; replace KB := Lib.hid (blk_below KB.out hb); replace HB := Lib.hid (HB.out.trans (hb.mono HB.out.size)); (obtain ⟨c0, -⟩ := Hp.blk_cell KB.out 0 rfl); (obtain ⟨c1, -⟩ := Hp.blk_cell KB.out 1 rfl); (obtain ⟨c2, -⟩ := Hp.blk_cell KB.out 2 rfl); clear hb hM hlt)))
  have KS : Hid ((w3.alloc (.cells #[.pointer (some ⟨mk, 0, none⟩), .pointer none, .int .i64 0, .bool false] 98)).heap[w3.heap.size]? = some (.cells #[.pointer (some ⟨mk, 0, none⟩), .pointer none, .int .i64 0, .bool false] 98 (0, 0))) := Lib.hid (Hp.blk_new w3 _)
  have HLs := Lib.hid HB.out.size
  replace HM := Lib.hid (HM.out.below ((Below.refl w3.heap.size w3).alloc (Nat.le_refl _) (.cells #[.pointer (some ⟨mk, 0, none⟩), .pointer none, .int .i64 0, .bool false] 98)))
  replace KB := Lib.hid (blk_below KB.out ((Below.refl w3.heap.size w3).alloc (Nat.le_refl _) (.cells #[.pointer (some ⟨mk, 0, none⟩), .pointer none, .int .i64 0, .bool false] 98)))
  replace HB := Lib.hid (HB.out.alloc HB.out.size (.cells #[.pointer (some ⟨mk, 0, none⟩), .pointer none, .int .i64 0, .bool false] 98))
  clear c0 c1 c2
  generalize w3.heap.size = m at KS HLs ⊢
  generalize w3.alloc (.cells #[.pointer (some ⟨mk, 0, none⟩), .pointer none, .int .i64 0, .bool false] 98) = w4 at KS HM KB HB ⊢
  (obtain ⟨c0, -⟩ := Hp.blk_cell KB.out 0 rfl)
  (obtain ⟨c1, -⟩ := Hp.blk_cell KB.out 1 rfl)
  (obtain ⟨c2, -⟩ := Hp.blk_cell KB.out 2 rfl)
  obtain ⟨d2, f2⟩ := Hp.blk_cell KS.out 2 rfl
  have HNE := Lib.hid (blk_ne KS.out HM.out (by decide))
  go_wp2_with (fail)
  go_ret2
  exact ⟨m, mk, rfl, HLs.out, HL.out, Hp.blk_set KS.out 2 _, ((Fr.refl (fun k => k = m) w4).setCell ⟨m, 2, none⟩ (.int .i64 3) (.inl rfl)).blk HM.out (fun e => HNE.out e.symm), HB.out.setCell (p := ⟨m, 2, none⟩) HLs.out _⟩

set_option maxHeartbeats 2000000 in
set_option maxRecDepth 100000 in
theorem newShade_yes (w : World) (P T R t : Int) (ref : Int) (q0 : Int) (hst : layout_Plan_Status.f P T R t = some q0) (h0 : 0 ≤ q0) (b : Int) (hb : layout_Plan_Base.f P T R = some b) (hb0 : 0 ≤ b) (hr : ref ≠ 0) (hf : layout_Plan_Ref.f P T R ref = some true) (hg : ring_right.f P T R t = some true) :
    Calls Try.prog 12 #[.agg #[.int .i64 P, .int .i64 T, .int .i64 R], .int .i64 t, .int .u64 ref] w fun e w' => ∃ m mk pu, e = .returned (.tuple #[.pointer (some ⟨m, 0, none⟩), .int .i64 0]) ∧ (w.heap.size ≤ m ∧ w.heap.size ≤ mk ∧ w.heap.size ≤ pu) ∧ IsShade w' m mk pu ⟨P, T, R, t, ref, 0, false, false, false, 0, 0, 0, false⟩ ∧ Below w.heap.size w w' := by
  have HSt := Lib.hid hst
  have e1 : decide (q0 < 0) = false := decide_eq_false (by omega)
  have e2 : (ref == 0) = false := by simp [hr]
  have HNM := fun w => newMark_yes w P T R ref b hb hb0 hr hf
  have HNP := fun w => newPush_yes w P T R t ref hg hr
  clear hst h0 hb hb0 hr hf hg
  have KB := Lib.hid (Hp.blk_new w (.cells #[.int .i64 P, .int .i64 T, .int .i64 R] 34))
  have HB := Lib.hid ((Below.refl w.heap.size w).alloc (Nat.le_refl _) (.cells #[.int .i64 P, .int .i64 T, .int .i64 R] 34))
  (obtain ⟨c0, -⟩ := Hp.blk_cell KB.out 0 rfl)
  (obtain ⟨c1, -⟩ := Hp.blk_cell KB.out 1 rfl)
  (obtain ⟨c2, -⟩ := Hp.blk_cell KB.out 2 rfl)
  go_enter Try.func12, Try.ntmps12
  go_upto_region 7 with (first
    | (go_at_call 45; ((with_reducible refine (layout_Plan_Status.calls P T R t q0 _ HSt.out).mono ?_); rintro e w2 ⟨rfl, hb⟩; clear c0 c1 c2; replace KB := Lib.hid (blk_below KB.out hb); replace HB := Lib.hid (HB.out.trans (hb.mono HB.out.size)); (obtain ⟨c0, -⟩ := Hp.blk_cell KB.out 0 rfl); (obtain ⟨c1, -⟩ := Hp.blk_cell KB.out 1 rfl); (obtain ⟨c2, -⟩ := Hp.blk_cell KB.out 2 rfl); clear hb))
    | (go_at_call 10; ((with_reducible refine (HNM _).mono ?_); rintro e w3 ⟨mk, rfl, hlt, hM, hb⟩; (have HM := Lib.hid hM); (have HL := Lib.hid (Nat.le_trans HB.out.size hlt)); clear c0 c1 c2; replace KB := Lib.hid (blk_below KB.out hb); replace HB := Lib.hid (HB.out.trans (hb.mono HB.out.size)); (obtain ⟨c0, -⟩ := Hp.blk_cell KB.out 0 rfl); (obtain ⟨c1, -⟩ := Hp.blk_cell KB.out 1 rfl); (obtain ⟨c2, -⟩ := Hp.blk_cell KB.out 2 rfl); clear hb hM hlt)))
  have KS : Hid ((w3.alloc (.cells #[.pointer (some ⟨mk, 0, none⟩), .pointer none, .int .i64 0, .bool false] 98)).heap[w3.heap.size]? = some (.cells #[.pointer (some ⟨mk, 0, none⟩), .pointer none, .int .i64 0, .bool false] 98 (0, 0))) := Lib.hid (Hp.blk_new w3 _)
  have HLs := Lib.hid HB.out.size
  replace HM := Lib.hid (HM.out.below ((Below.refl w3.heap.size w3).alloc (Nat.le_refl _) (.cells #[.pointer (some ⟨mk, 0, none⟩), .pointer none, .int .i64 0, .bool false] 98)))
  replace KB := Lib.hid (blk_below KB.out ((Below.refl w3.heap.size w3).alloc (Nat.le_refl _) (.cells #[.pointer (some ⟨mk, 0, none⟩), .pointer none, .int .i64 0, .bool false] 98)))
  replace HB := Lib.hid (HB.out.alloc HB.out.size (.cells #[.pointer (some ⟨mk, 0, none⟩), .pointer none, .int .i64 0, .bool false] 98))
  clear c0 c1 c2
  generalize w3.heap.size = m at KS HLs ⊢
  generalize w3.alloc (.cells #[.pointer (some ⟨mk, 0, none⟩), .pointer none, .int .i64 0, .bool false] 98) = w4 at KS HM KB HB ⊢
  (obtain ⟨c0, -⟩ := Hp.blk_cell KB.out 0 rfl)
  (obtain ⟨c1, -⟩ := Hp.blk_cell KB.out 1 rfl)
  (obtain ⟨c2, -⟩ := Hp.blk_cell KB.out 2 rfl)
  go_upto_region 11 with (first
    | (go_at_call 46; ((with_reducible refine (HNP _).mono ?_); rintro e w5 ⟨pu, rfl, hlp, hP, hb⟩; (have HP := Lib.hid hP); (have HLp := Lib.hid (Nat.le_trans HB.out.size hlp)); replace KS := Lib.hid (blk_below KS.out hb); replace HM := Lib.hid (HM.out.below hb); replace HB := Lib.hid (HB.out.trans (hb.mono HB.out.size)); clear c0 c1 c2 hb hlp hP KB; (obtain ⟨d1, f1⟩ := Hp.blk_cell KS.out 1 rfl))))
  have HNE := Lib.hid (blk_ne KS.out HM.out (by decide))
  have HNQ := Lib.hid (blk_ne KS.out HP.out (by decide))
  go_wp2_with (fail)
  go_ret2
  have fr2 := (Fr.refl (fun k => k = m) w5).setCell ⟨m, 1, none⟩ (.pointer (some ⟨pu, 0, none⟩)) (.inl rfl)
  exact ⟨m, mk, pu, rfl, ⟨HLs.out, HL.out, HLp.out⟩, ⟨Hp.blk_set KS.out 1 _, fr2.blk HM.out (fun e => HNE.out e.symm), fr2.blk HP.out (fun e => HNQ.out e.symm)⟩, HB.out.setCell (p := ⟨m, 1, none⟩) HLs.out _⟩

/-- Is the bit one of the word's? -/
abbrev bitSet (x b : Int) : Bool := Go.bits .and .u64 (x / 2 ^ min b.toNat 64) 1 == 1
theorem below_dn {B : Nat} {w : World} (n : Nat) (h : B ≤ w.heap.size) : Below B w (w.drewN n) := (((Fr.refl (fun _ => False) w).drewN n) |> below_fr).mono h

set_option maxHeartbeats 2000000 in
set_option maxRecDepth 100000 in
theorem marked_sys (w : World) {B : Nat} {a c : Nat} {s : AS} {ps : List (Nat × Int × Bool)} (hs : Sys B w a c s ps) (P T R ref : Int) (hf : layout_Plan_Ref.f P T R ref = some true) (pg b q : Int) (hp : layout_Plan_Place.f P T R (wrap64 ref) = some (pg, b)) (hb0 : 0 ≤ b) (hq : layout_Plan_Mark.f P T R pg = some q) (hh : s.has q = true) :
    Calls Try.prog 22 #[.pointer (some ⟨a, 0, none⟩), .agg #[.int .i64 P, .int .i64 T, .int .i64 R], .int .u64 ref] w fun e w' => e = .returned (.bool (bitSet (s.cells.getD q.toNat 0) b)) ∧ Below w.heap.size w w' := by
  have HRf := Lib.hid hf
  have HPl := Lib.hid hp
  have HQ := Lib.hid hq
  have HS := Lib.hid (hs.below ((Below.refl w.heap.size w).alloc (Nat.le_refl _) (.cells #[.int .i64 P, .int .i64 T, .int .i64 R] 34)))
  have HH := Lib.hid hh
  obtain ⟨x, hx⟩ : ∃ x, x = s.cells.getD q.toNat 0 := ⟨_, rfl⟩
  have HX := Lib.hid hx
  rw [← hx]
  clear hf hp hq hs hh hx
  have KB := Lib.hid (Hp.blk_new w (.cells #[.int .i64 P, .int .i64 T, .int .i64 R] 34))
  have HB := Lib.hid ((Below.refl w.heap.size w).alloc (Nat.le_refl _) (.cells #[.int .i64 P, .int .i64 T, .int .i64 R] 34))
  (obtain ⟨c0, -⟩ := Hp.blk_cell KB.out 0 rfl)
  (obtain ⟨c1, -⟩ := Hp.blk_cell KB.out 1 rfl)
  (obtain ⟨c2, -⟩ := Hp.blk_cell KB.out 2 rfl)
  go_enter Try.func22, Try.ntmps22
  go_wp2_with (first
    | (go_at_call 44; ((with_reducible refine (layout_Plan_Ref.calls P T R ref true _ HRf.out).mono ?_); rintro e w2 ⟨rfl, hb⟩; replace HS := Lib.hid (HS.out.below hb); clear c0 c1 c2; replace KB := Lib.hid (blk_below KB.out hb); replace HB := Lib.hid (HB.out.trans (hb.mono HB.out.size)); (obtain ⟨c0, -⟩ := Hp.blk_cell KB.out 0 rfl); (obtain ⟨c1, -⟩ := Hp.blk_cell KB.out 1 rfl); (obtain ⟨c2, -⟩ := Hp.blk_cell KB.out 2 rfl); clear hb))
    | (go_at_call 48; ((with_reducible refine (layout_Plan_Place.calls P T R (wrap64 ref) pg b _ HPl.out).mono ?_); rintro e w3 ⟨rfl, hb⟩; replace HS := Lib.hid (HS.out.below hb); clear c0 c1 c2; replace KB := Lib.hid (blk_below KB.out hb); replace HB := Lib.hid (HB.out.trans (hb.mono HB.out.size)); (obtain ⟨c0, -⟩ := Hp.blk_cell KB.out 0 rfl); (obtain ⟨c1, -⟩ := Hp.blk_cell KB.out 1 rfl); (obtain ⟨c2, -⟩ := Hp.blk_cell KB.out 2 rfl); clear hb))
    | (go_at_call 50; ((with_reducible refine (layout_Plan_Mark.calls P T R pg q _ HQ.out).mono ?_); rintro e w4 ⟨rfl, hb⟩; replace HS := Lib.hid (HS.out.below hb); clear c0 c1 c2; replace KB := Lib.hid (blk_below KB.out hb); replace HB := Lib.hid (HB.out.trans (hb.mono HB.out.size)); (obtain ⟨c0, -⟩ := Hp.blk_cell KB.out 0 rfl); (obtain ⟨c1, -⟩ := Hp.blk_cell KB.out 1 rfl); (obtain ⟨c2, -⟩ := Hp.blk_cell KB.out 2 rfl); clear hb))
    | (go_at_call 54; ((have hm := HS.out.peek q); rw [if_pos HH.out, if_pos HH.out, ← HX.out] at hm; (with_reducible refine hm.mono ?_); clear hm; rintro e w5 ⟨rfl, n, rfl⟩; replace HB := Lib.hid (HB.out.trans (below_dn n HB.out.size)); clear c0 c1 c2 KB)))
  go_ret
  exact ⟨rfl, HB.out⟩
end Go.Proofs.Ytcnledehnefldaa.Ar
/- A shade's step as a function of the arena and the machine; a shade that is stepped to its end; shaded is true. -/
namespace Go.Proofs.Ytcnledehnefldaa.Ar
open Go Go.RowKit Go.Proofs.Ytcnledehnefldaa.Hp Go.Proofs.Ytcnledehnefldaa.PH
set_option linter.unusedVariables false
set_option linter.unusedSimpArgs false

theorem set_get2 {α : Type} {l : List α} {i : Nat} {x y : α} (h : l[i]? = some x) : (l.set i y)[i]? = some y := by
  obtain ⟨hi, _⟩ := List.getElem?_eq_some_iff.1 h
  rw [List.getElem?_set_self hi]
theorem acc_len2 (t : AS) (g : Bool) (who kind at_ want put : Int) : (t.acc g who kind at_ want put).1.log.length ≤ t.log.length + 1 := by
  unfold AS.acc
  split
  · unfold AS.done
    simp only
    split <;> simp
  · exact Nat.le_succ _
/-- Where a shade's accesses go: its mark's cell and bit; the ring's tail, head and slots. -/
structure Pl where
  q : Int
  b : Int
  qT : Int
  qH : Int
  qS : Int → Int
structure PlOk (L : Pl) (x : SS) : Prop where
  pl : ∃ pg, layout_Plan_Place.f x.P x.T x.R (IntKind.i64.wrap x.ref) = some (pg, L.b) ∧ layout_Plan_Mark.f x.P x.T x.R pg = some L.q
  b0 : 0 ≤ L.b
  tl : layout_Plan_Tail.f x.P x.T x.R x.t = some L.qT
  hd : layout_Plan_Head.f x.P x.T x.R x.t = some L.qH
def shMark (L : Pl) (who : Int) (s : AS) (x : SS) : AS × SS :=
  ((s.acc true who 5 L.q 0 (bitOf L.b)).1, { x with at_ := if bitIn (s.acc true who 5 L.q 0 (bitOf L.b)).2 L.b = true then 1 else 3, done := true, fresh := bitIn (s.acc true who 5 L.q 0 (bitOf L.b)).2 L.b })
def shPush (L : Pl) (who : Int) (s : AS) (x : SS) : AS × SS :=
  if x.pat = 0 then ((s.acc true who 1 L.qT 0 0).1, { x with pat := 1, tl := (s.acc true who 1 L.qT 0 0).2 })
  else if x.pat = 1 then
    (if IntKind.u64.wrap x.R ≤ IntKind.u64.wrap (x.tl - (s.acc true who 1 L.qH 0 0).2) then ((s.acc true who 1 L.qH 0 0).1, { x with pat := 4, hd := (s.acc true who 1 L.qH 0 0).2, full := true, at_ := 2 })
     else ((s.acc true who 1 L.qH 0 0).1, { x with pat := 2, hd := (s.acc true who 1 L.qH 0 0).2 }))
  else if x.pat = 2 then ((s.acc true who 2 (L.qS x.tl) 0 x.ref).1, { x with pat := 3 })
  else ((s.acc true who 2 L.qT 0 (IntKind.u64.wrap (x.tl + 1))).1, { x with pat := 4, at_ := 3 })
def shStep (L : Pl) (who : Int) (s : AS) (x : SS) : AS × SS :=
  if x.at_ = 0 then shMark L who s x else if x.at_ = 1 then shPush L who s x else if x.at_ = 2 then ((s.acc true who 2 4 0 1).1, { x with lost := true, at_ := 3 }) else (s, x)
def SS.ok (x : SS) : Prop := (x.at_ = 0 ∧ x.done = false ∧ x.full = false ∧ x.pat = 0) ∨ (x.at_ = 1 ∧ x.full = false ∧ (x.pat = 0 ∨ x.pat = 1 ∨ x.pat = 2 ∨ x.pat = 3)) ∨ x.at_ = 2 ∨ x.at_ = 3
theorem shStep_same (L : Pl) (who : Int) (s : AS) (x : SS) : (shStep L who s x).2.P = x.P ∧ (shStep L who s x).2.T = x.T ∧ (shStep L who s x).2.R = x.R ∧ (shStep L who s x).2.t = x.t ∧ (shStep L who s x).2.ref = x.ref := by
  unfold shStep shMark shPush
  (repeat' split) <;> exact ⟨rfl, rfl, rfl, rfl, rfl⟩
theorem PlOk.step {L : Pl} {who : Int} {s : AS} {x : SS} (h : PlOk L x) : PlOk L (shStep L who s x).2 := by
  obtain ⟨e1, e2, e3, e4, e5⟩ := shStep_same L who s x
  exact ⟨by rw [e1, e2, e3, e5]; exact h.pl, h.b0, by rw [e1, e2, e3, e4]; exact h.tl, by rw [e1, e2, e3, e4]; exact h.hd⟩
theorem shStep_ok (L : Pl) (who : Int) (s : AS) {x : SS} (h : x.ok) : (shStep L who s x).2.ok := by
  unfold SS.ok at h
  rcases h with ⟨h1, h2, h3, h4⟩ | ⟨h1, h2, h3⟩ | h1 | h1
  · unfold shStep shMark
    rw [if_pos h1]
    unfold SS.ok
    split
    · exact .inr (.inl ⟨rfl, h3, .inl h4⟩)
    · exact .inr (.inr (.inr rfl))
  · unfold shStep shPush
    rw [if_neg (by omega), if_pos h1]
    rcases h3 with h3 | h3 | h3 | h3
    · rw [if_pos h3]; exact .inr (.inl ⟨h1, h2, .inr (.inl rfl)⟩)
    · rw [if_neg (by omega), if_pos h3]
      split
      · exact .inr (.inr (.inl rfl))
      · exact .inr (.inl ⟨h1, h2, .inr (.inr (.inl rfl))⟩)
    · rw [if_neg (by omega), if_neg (by omega), if_pos h3]; exact .inr (.inl ⟨h1, h2, .inr (.inr (.inr rfl))⟩)
    · rw [if_neg (by omega), if_neg (by omega), if_neg (by omega)]; exact .inr (.inr (.inr rfl))
  · unfold shStep
    rw [if_neg (by omega), if_neg (by omega), if_pos h1]; exact .inr (.inr (.inr rfl))
  · unfold shStep
    rw [if_neg (by omega), if_neg (by omega), if_neg (by omega)]; exact .inr (.inr (.inr h1))
theorem shStep_len (L : Pl) (who : Int) (s : AS) (x : SS) : (shStep L who s x).1.log.length ≤ s.log.length + 1 := by
  unfold shStep shMark shPush
  (repeat' split) <;> first | exact acc_len2 s _ _ _ _ _ _ | exact Nat.le_succ _

set_option maxHeartbeats 2000000 in
theorem shade_step {B : Nat} {w : World} {a c p : Nat} {s : AS} {who : Int} {ps : List (Nat × Int × Bool)} (hs : Sys B w a c s ps) (i : Nat) (hi : ps[i]? = some (p, who, true)) {m mk pu : Nat} {x : SS} (hx : IsShade w m mk pu x) (hB : B ≤ m ∧ B ≤ mk ∧ B ≤ pu) (hok : x.ok) (h3 : x.at_ ≠ 3) {L : Pl} (hL : PlOk L x)
    (hS : x.at_ = 1 → x.pat = 2 → layout_Plan_Slot.f x.P x.T x.R x.t x.tl = some (L.qS x.tl)) (hl : s.log.length ≤ 1000000) :
    Calls Try.prog 17 #[.pointer (some ⟨m, 0, none⟩), .pointer (some ⟨p, 0, none⟩)] w fun e w' => e = .returned (.bool (decide ((shStep L who s x).2.at_ = 3))) ∧ IsShade w' m mk pu (shStep L who s x).2 ∧ Sys B w' a c (shStep L who s x).1 (ps.set i (p, who, false)) ∧ Below B w w' ∧ Fr (fun k => k = m ∨ k = mk ∨ k = pu ∨ Touch c w k) w w' := by
  obtain ⟨P, T, R, t, ref, at_, lost, done, fresh, pat, hd, tl, full⟩ := x
  obtain ⟨⟨pg, hp, hq⟩, hb0, hT, hH⟩ := hL
  have hne := hx.ne
  obtain ⟨hb, hm, hpu⟩ := hx
  have hpu' : IsPush w pu ⟨P, T, R, t, ref, pat, hd, tl, full⟩ := hpu
  unfold SS.ok at hok
  simp only at hok h3 hS hp hq hT hH hb
  have hnt := IsShade.free ⟨hb, hm, hpu⟩ hs
  have wide : ∀ {w' : World}, Fr (fun k => k = m ∨ k = mk ∨ Touch c w k) w w' → Fr (fun k => k = m ∨ k = mk ∨ k = pu ∨ Touch c w k) w w' := fun h => fr_wide h fun k hk => hk.elim .inl fun hk => hk.elim (fun e => .inr (.inl e)) fun e => .inr (.inr (.inr e))
  have keep : ∀ {w' : World}, Fr (fun k => k = m ∨ k = mk ∨ Touch c w k) w w' → IsPush w' pu ⟨P, T, R, t, ref, pat, hd, tl, full⟩ := fun h => h.blk hpu' fun hk => hk.elim (fun e => hne.2.1 e.symm) fun hk => hk.elim (fun e => hne.2.2 e.symm) hnt.2.2
  rcases hok with ⟨rfl, rfl, rfl, rfl⟩ | ⟨rfl, rfl, hpat⟩ | rfl | rfl
  · have hst := mark_step_go (fr := fresh) hs i hi mk hm hB.2.1 hp hb0 hq hl
    unfold shStep shMark
    rw [if_pos rfl]
    cases hz : bitIn (s.acc true who 5 L.q 0 (bitOf L.b)).2 L.b with
    | true =>
      have hst' : Calls Try.prog 14 #[.pointer (some ⟨mk, 0, none⟩), .pointer (some ⟨p, 0, none⟩)] w fun e w' => e = .returned (.bool true) ∧ IsMark w' mk ⟨P, T, R, ref, true, true⟩ ∧ Sys B w' a c (s.acc true who 5 L.q 0 (bitOf L.b)).1 (ps.set i (p, who, false)) ∧ Below B w w' ∧ Fr (fun k => k = mk ∨ Touch c w k) w w' := by rw [hz] at hst; exact hst
      refine (shade_mark_fresh hs i hi m mk pu hB.1 lost hb _ rfl hne.1 hst').mono ?_
      rintro e w' ⟨rfl, h1, h2, h3, h4, h5⟩
      exact ⟨rfl, ⟨h1, h2, keep h5⟩, h3, h4, wide h5⟩
    | false =>
      have hst' : Calls Try.prog 14 #[.pointer (some ⟨mk, 0, none⟩), .pointer (some ⟨p, 0, none⟩)] w fun e w' => e = .returned (.bool true) ∧ IsMark w' mk ⟨P, T, R, ref, true, false⟩ ∧ Sys B w' a c (s.acc true who 5 L.q 0 (bitOf L.b)).1 (ps.set i (p, who, false)) ∧ Below B w w' ∧ Fr (fun k => k = mk ∨ Touch c w k) w w' := by rw [hz] at hst; exact hst
      refine (shade_mark_stale hs i hi m mk pu hB.1 lost hb _ rfl hne.1 hst').mono ?_
      rintro e w' ⟨rfl, h1, h2, h3, h4, h5⟩
      exact ⟨rfl, ⟨h1, h2, keep h5⟩, h3, h4, wide h5⟩
  · have hm' : IsMark w mk ⟨P, T, R, ref, done, fresh⟩ := hm
    unfold shStep
    rw [if_neg (by simp), if_pos rfl]
    unfold shPush
    rcases hpat with rfl | rfl | rfl | rfl
    · rw [if_pos rfl]
      refine (shade_push_on hs i hi m mk pu hB.1 lost hb _ _ hm' hne.1 hne.2.1 hne.2.2 (push_step0 hs i hi pu hpu' hB.2.2 hT hl)).mono ?_
      rintro e w' ⟨rfl, h1, h2, h3, h4, h5, h6⟩
      exact ⟨rfl, ⟨h1, h3, h2⟩, h4, h5, h6⟩
    · rw [if_neg (by simp), if_pos rfl]
      by_cases hz : IntKind.u64.wrap R ≤ IntKind.u64.wrap (tl - (s.acc true who 1 L.qH 0 0).2)
      · rw [if_pos hz]
        refine (shade_push_full hs i hi m mk pu hB.1 lost hb _ _ hm' rfl hne.1 hne.2.1 hne.2.2 (push_step1full hs i hi pu hpu' hB.2.2 hH hl hz)).mono ?_
        rintro e w' ⟨rfl, h1, h2, h3, h4, h5, h6⟩
        exact ⟨rfl, ⟨h1, h3, h2⟩, h4, h5, h6⟩
      · rw [if_neg hz]
        refine (shade_push_on hs i hi m mk pu hB.1 lost hb _ _ hm' hne.1 hne.2.1 hne.2.2 (push_step1room hs i hi pu hpu' hB.2.2 hH hl hz)).mono ?_
        rintro e w' ⟨rfl, h1, h2, h3, h4, h5, h6⟩
        exact ⟨rfl, ⟨h1, h3, h2⟩, h4, h5, h6⟩
    · rw [if_neg (by simp), if_neg (by simp), if_pos rfl]
      refine (shade_push_on hs i hi m mk pu hB.1 lost hb _ _ hm' hne.1 hne.2.1 hne.2.2 (push_step2 hs i hi pu hpu' hB.2.2 (hS rfl rfl) hl)).mono ?_
      rintro e w' ⟨rfl, h1, h2, h3, h4, h5, h6⟩
      exact ⟨rfl, ⟨h1, h3, h2⟩, h4, h5, h6⟩
    · rw [if_neg (by simp), if_neg (by simp), if_neg (by simp)]
      refine (shade_push_end hs i hi m mk pu hB.1 lost hb _ _ hm' rfl hne.1 hne.2.1 hne.2.2 (push_step3 hs i hi pu hpu' hB.2.2 hT hl)).mono ?_
      rintro e w' ⟨rfl, h1, h2, h3, h4, h5, h6⟩
      exact ⟨rfl, ⟨h1, h3, h2⟩, h4, h5, h6⟩
  · have hm' : IsMark w mk ⟨P, T, R, ref, done, fresh⟩ := hm
    unfold shStep
    rw [if_neg (by simp), if_neg (by simp), if_pos rfl]
    refine (shade_tell hs i hi m mk pu hB.1 lost hb _ _ hpu' hm' hl hne.1 hne.2.1 rfl).mono ?_
    rintro e w' ⟨rfl, h1, h2, h3, h4, h5, h6⟩
    exact ⟨rfl, ⟨h1, h3, h2⟩, h4, h5, h6⟩
  · exact absurd rfl h3
/-- k steps, each with a grant. -/
def shRun (L : Pl) (who : Int) (s : AS) (x : SS) : Nat → AS × SS
  | 0 => (s, x)
  | k + 1 => shStep L who (shRun L who s x k).1 (shRun L who s x k).2
theorem shRun_ok (L : Pl) (who : Int) (s : AS) {x : SS} (h : x.ok) : ∀ k, (shRun L who s x k).2.ok
  | 0 => h
  | k + 1 => shStep_ok L who _ (shRun_ok L who s h k)
theorem shRun_pl {L : Pl} {who : Int} {s : AS} {x : SS} (h : PlOk L x) : ∀ k, PlOk L (shRun L who s x k).2
  | 0 => h
  | k + 1 => PlOk.step (shRun_pl h k)
theorem shRun_len (L : Pl) (who : Int) (s : AS) (x : SS) : ∀ k, (shRun L who s x k).1.log.length ≤ s.log.length + k
  | 0 => Nat.le_refl _
  | k + 1 => Nat.le_trans (shStep_len L who _ _) (by have := shRun_len L who s x k; omega)
theorem shRun_same (L : Pl) (who : Int) (s : AS) (x : SS) : ∀ k, (shRun L who s x k).2.P = x.P ∧ (shRun L who s x k).2.T = x.T ∧ (shRun L who s x k).2.R = x.R ∧ (shRun L who s x k).2.t = x.t ∧ (shRun L who s x k).2.ref = x.ref
  | 0 => ⟨rfl, rfl, rfl, rfl, rfl⟩
  | k + 1 => by
    obtain ⟨a1, a2, a3, a4, a5⟩ := shRun_same L who s x k
    obtain ⟨b1, b2, b3, b4, b5⟩ := shStep_same L who (shRun L who s x k).1 (shRun L who s x k).2
    exact ⟨b1.trans a1, b2.trans a2, b3.trans a3, b4.trans a4, b5.trans a5⟩
def ShTouch (c m mk pu : Nat) (w : World) (k : Nat) : Prop := k = m ∨ k = mk ∨ k = pu ∨ Touch c w k
theorem shTouch_back {c m mk pu : Nat} {w w' : World} (hF : Fr (ShTouch c m mk pu w) w w') (k : Nat) (hk : k < w.heap.size) (ht : ShTouch c m mk pu w' k) : ShTouch c m mk pu w k := by
  rcases ht with e | e | e | ht
  · exact .inl e
  · exact .inr (.inl e)
  · exact .inr (.inr (.inl e))
  · by_cases h : ShTouch c m mk pu w k
    · exact h
    · have e := hF.block k hk h
      rcases ht with rfl | ⟨cs, t, f, h1, h2⟩
      · exact .inr (.inr (.inr (.inl rfl)))
      · rw [e] at h1
        exact .inr (.inr (.inr (.inr ⟨cs, t, f, h1, h2⟩)))
end Go.Proofs.Ytcnledehnefldaa.Ar
/- A shade is stepped to its end; shaded is true. -/
namespace Go.Proofs.Ytcnledehnefldaa.Ar
open Go Go.RowKit Go.Proofs.Ytcnledehnefldaa.Hp Go.Proofs.Ytcnledehnefldaa.PH
set_option linter.unusedVariables false
set_option linter.unusedSimpArgs false

set_option maxHeartbeats 2000000 in
set_option maxRecDepth 100000 in
theorem finish_n {B : Nat} {w : World} {a c p : Nat} {s : AS} {who : Int} {g : Bool} {ps : List (Nat × Int × Bool)} (hs : Sys B w a c s ps) (i : Nat) (hi : ps[i]? = some (p, who, g)) {m mk pu : Nat} {x : SS} (hx : IsShade w m mk pu x) (hB : B ≤ m ∧ B ≤ mk ∧ B ≤ pu) (hok : x.ok) {L : Pl} (hL : PlOk L x)
    (n : Nat) (h1 : 1 ≤ n) (h6 : n ≤ 6) (hn : (shRun L who s x n).2.at_ = 3) (hlt : ∀ k, k < n → (shRun L who s x k).2.at_ ≠ 3)
    (hS : ∀ k, k < n → (shRun L who s x k).2.at_ = 1 → (shRun L who s x k).2.pat = 2 → layout_Plan_Slot.f x.P x.T x.R x.t (shRun L who s x k).2.tl = some (L.qS (shRun L who s x k).2.tl)) (hl : s.log.length ≤ 1000) :
    Calls Try.prog 30 #[.pointer (some ⟨p, 0, none⟩), .pointer (some ⟨m, 0, none⟩)] w fun e w' => e = .returned (.int .i64 n) ∧ IsShade w' m mk pu (shRun L who s x n).2 ∧ (∃ ps', ps'[i]? = some (p, who, false) ∧ ps'.length = ps.length ∧ Sys B w' a c (shRun L who s x n).1 ps') ∧ Below B w w' ∧ Fr (ShTouch c m mk pu w) w w' := by
  have HSL : Hid (∀ k, k < n → (shRun L who s x k).2.at_ = 1 → (shRun L who s x k).2.pat = 2 → layout_Plan_Slot.f (shRun L who s x k).2.P (shRun L who s x k).2.T (shRun L who s x k).2.R (shRun L who s x k).2.t (shRun L who s x k).2.tl = some (L.qS (shRun L who s x k).2.tl)) := Lib.hid (fun k hk a1 a2 => by
    obtain ⟨e1, e2, e3, e4, _⟩ := shRun_same L who s x k
    rw [e1, e2, e3, e4]
    exact hS k hk a1 a2)
  have KS := Lib.hid hs
  have KI := Lib.hid hi
  have KX := Lib.hid hx
  have HBm := Lib.hid hB
  have HOK := Lib.hid hok
  have HPL := Lib.hid hL
  have HN := Lib.hid hn
  have HLT := Lib.hid hlt
  have KL := Lib.hid hl
  have KB := Lib.hid (Below.refl B w)
  have KF := Lib.hid (Fr.refl (ShTouch c m mk pu w) w)
  clear hs hi hx hB hok hL hn hlt hS hl
  go_enter Try.func30, Try.ntmps30
  go_wp2_with (fail)
  go_loopw [5] (fun v5 wr => ∃ (k : Nat) (g' : Bool) (ps' : List (Nat × Int × Bool)), k < n ∧ v5 = .int .i64 ((k : Int) + 1) ∧ Hid (ps'[i]? = some (p, who, g')) ∧ Hid (ps'.length = ps.length) ∧ Hid (Sys B wr a c (shRun L who s x k).1 ps') ∧ Hid (IsShade wr m mk pu (shRun L who s x k).2) ∧ Hid (Below B w wr) ∧ Hid (Fr (ShTouch c m mk pu w) w wr)) (fun v5 _ => 8 - (intOf v5).toNat)
  case atStart => exact ⟨0, g, ps, by omega, rfl, KI, Lib.hid rfl, KS, KX, KB, KF⟩
  case round =>
    obtain ⟨k, g', ps', hk, rfl, HI, HLen, HS, HX, HB, HF⟩ := hrel
    clear KI KS KX KB KF
    have HLn := Lib.hid (by have h1 := shRun_len L who s x k; have h2 := KL.out; omega : (shRun L who s x k).1.log.length ≤ 1000000)
    have HL3 : Hid (((ps'.set i (p, who, true)).set i (p, who, false)).length = ps.length) := Lib.hid (by rw [List.length_set, List.length_set]; exact HLen.out)
    by_cases hkn : k + 1 = n
    · have hd : decide ((shStep L who (shRun L who s x k).1 (shRun L who s x k).2).2.at_ = 3) = true := decide_eq_true (by have := HN.out; rw [← hkn] at this; exact this)
      go_wp2_with (first
        | (go_at_call 29; ((have hm := HS.out.grant i HI.out); refine hm.mono ?_; clear hm; rintro e w2 ⟨rfl, hD⟩; (have hnt := HX.out.free HS.out); (have HX2 := Lib.hid (HX.out.fr hD.fr hnt.1 hnt.2.1 hnt.2.2)); (have HS2 := Lib.hid hD.sys); (have HI2 := Lib.hid (set_get2 (y := (p, who, true)) HI.out)); replace HB := Lib.hid (HB.out.trans hD.bel); (have hF2 := HF.out.then hD.fr (fun k hk ht => shTouch_back HF.out k hk (.inr (.inr (.inr ht))))); clear HF; (have HF := Lib.hid hF2); clear hD hF2 hnt))
        | (go_at_call 17; ((have hm := shade_step HS2.out i HI2.out HX2.out HBm.out (shRun_ok L who s HOK.out k) (HLT.out k hk) (shRun_pl HPL.out k) (HSL.out k hk) (by have := HLn.out; omega)); rw [hd] at hm; refine hm.mono ?_; clear hm; rintro e w3 ⟨rfl, hX, hS, hb, hF⟩; (have HX3 : Hid (IsShade w3 m mk pu (shRun L who s x (k + 1)).2) := Lib.hid hX); (have HS3 : Hid (Sys B w3 a c (shRun L who s x (k + 1)).1 _) := Lib.hid hS); (have HI3 := Lib.hid (set_get2 (y := (p, who, false)) HI2.out)); replace HB := Lib.hid (HB.out.trans hb); (have hF2 := HF.out.then hF (fun k' hk' ht => shTouch_back HF.out k' hk' ht)); clear HF; (have HF := Lib.hid hF2); clear hX hS hb hF hF2)))
      go_ret
      have e1 : ((k : Int) + 1) = (n : Int) := by omega
      rw [e1]
      rw [hkn] at HX3 HS3
      exact ⟨rfl, HX3.out, ⟨_, HI3.out, HL3.out, HS3.out⟩, HB.out, HF.out⟩
    · have hd : decide ((shStep L who (shRun L who s x k).1 (shRun L who s x k).2).2.at_ = 3) = false := decide_eq_false (fun e => HLT.out (k + 1) (by omega) e)
      go_wp2_with (first
        | (go_at_call 29; ((have hm := HS.out.grant i HI.out); refine hm.mono ?_; clear hm; rintro e w2 ⟨rfl, hD⟩; (have hnt := HX.out.free HS.out); (have HX2 := Lib.hid (HX.out.fr hD.fr hnt.1 hnt.2.1 hnt.2.2)); (have HS2 := Lib.hid hD.sys); (have HI2 := Lib.hid (set_get2 (y := (p, who, true)) HI.out)); replace HB := Lib.hid (HB.out.trans hD.bel); (have hF2 := HF.out.then hD.fr (fun k hk ht => shTouch_back HF.out k hk (.inr (.inr (.inr ht))))); clear HF; (have HF := Lib.hid hF2); clear hD hF2 hnt))
        | (go_at_call 17; ((have hm := shade_step HS2.out i HI2.out HX2.out HBm.out (shRun_ok L who s HOK.out k) (HLT.out k hk) (shRun_pl HPL.out k) (HSL.out k hk) (by have := HLn.out; omega)); rw [hd] at hm; refine hm.mono ?_; clear hm; rintro e w3 ⟨rfl, hX, hS, hb, hF⟩; (have HX3 : Hid (IsShade w3 m mk pu (shRun L who s x (k + 1)).2) := Lib.hid hX); (have HS3 : Hid (Sys B w3 a c (shRun L who s x (k + 1)).1 _) := Lib.hid hS); (have HI3 := Lib.hid (set_get2 (y := (p, who, false)) HI2.out)); replace HB := Lib.hid (HB.out.trans hb); (have hF2 := HF.out.then hF (fun k' hk' ht => shTouch_back HF.out k' hk' ht)); clear HF; (have HF := Lib.hid hF2); clear hX hS hb hF hF2)))
      go_roundw
      case rel => exact ⟨k + 1, false, _, by omega, by go_num, HI3, HL3, HS3, HX3, HB, HF⟩
      case measure => simp [intOf]; omega

theorem g_cells : windrowref06_Cells.f 200 1 1 1 = some ((128 : Nat) : Int) := by decide +kernel
theorem g_plan : windrowlaw08_plan.f 1 1 1 = some (1, 1, 1) := by decide +kernel
theorem g_stat : layout_Plan_Status.f 1 1 1 0 = some 16 := by decide +kernel
theorem g_base : layout_Plan_Base.f 1 1 1 = some 64 := by decide +kernel
theorem g_ref : layout_Plan_Ref.f 1 1 1 66 = some true ∧ layout_Plan_Ref.f 1 1 1 67 = some true := by decide +kernel
theorem g_right : ring_right.f 1 1 1 0 = some true := by decide +kernel
theorem g_place : layout_Plan_Place.f 1 1 1 (wrap64 66) = some (0, 2) ∧ layout_Plan_Place.f 1 1 1 (wrap64 67) = some (0, 3) := by decide +kernel
theorem g_mark : layout_Plan_Mark.f 1 1 1 0 = some 24 := by decide +kernel
abbrev gL : Pl := ⟨24, 2, 20, 19, fun _ => 21⟩
abbrev gX : SS := ⟨1, 1, 1, 0, 66, 0, false, false, false, 0, 0, 0, false⟩
abbrev gA : AS := ⟨List.replicate 128 0, [], true, 0, 0⟩
theorem g_plok : PlOk gL gX := ⟨⟨0, by decide +kernel, by decide +kernel⟩, by decide, by decide +kernel, by decide +kernel⟩
theorem g_ok : gX.ok := .inl ⟨rfl, rfl, rfl, rfl⟩
theorem g_run5 : (shRun gL 0 gA gX 5).2.at_ = 3 ∧ (shRun gL 0 gA gX 5).2.fresh = true ∧ (shRun gL 0 gA gX 5).1.log.length ≤ 1000 := by decide +kernel
theorem g_run : ∀ k, k < 5 → (shRun gL 0 gA gX k).2.at_ ≠ 3 := fun k hk => (by decide +kernel : ∀ k : Fin 5, (shRun gL 0 gA gX k.1).2.at_ ≠ 3) ⟨k, hk⟩
theorem g_slot : ∀ k, k < 5 → (shRun gL 0 gA gX k).2.at_ = 1 → (shRun gL 0 gA gX k).2.pat = 2 → layout_Plan_Slot.f gX.P gX.T gX.R gX.t (shRun gL 0 gA gX k).2.tl = some (gL.qS (shRun gL 0 gA gX k).2.tl) :=
  fun k hk => (by decide +kernel : ∀ k : Fin 5, (shRun gL 0 gA gX k.1).2.at_ = 1 → (shRun gL 0 gA gX k.1).2.pat = 2 → layout_Plan_Slot.f gX.P gX.T gX.R gX.t (shRun gL 0 gA gX k.1).2.tl = some (gL.qS (shRun gL 0 gA gX k.1).2.tl)) ⟨k, hk⟩
abbrev gA2 : AS := (shRun gL 0 gA gX 5).1
theorem g_run1 : (shRun gL 0 gA2 gX 1).2.at_ = 3 ∧ (shRun gL 0 gA2 gX 1).2.fresh = false ∧ (shRun gL 0 gA2 gX 1).1.has 24 = true ∧ bitSet ((shRun gL 0 gA2 gX 1).1.cells.getD (24 : Int).toNat 0) 2 = true ∧ bitSet ((shRun gL 0 gA2 gX 1).1.cells.getD (24 : Int).toNat 0) 3 = false := by decide +kernel
theorem sh_lt {w : World} {m mk pu : Nat} {x : SS} (h : IsShade w m mk pu x) : m < w.heap.size ∧ mk < w.heap.size ∧ pu < w.heap.size := ⟨blk_lt h.blk, blk_lt h.mrk, blk_lt h.psh⟩
/-- A shade whose blocks are none of another one's. -/
theorem IsShade.other {B : Nat} {w w' : World} {a c m mk pu m' mk' pu' : Nat} {s : AS} {ps : List (Nat × Int × Bool)} {x : SS} (h : IsShade w m mk pu x) (hs : Sys B w a c s ps) (hF : Fr (ShTouch c m' mk' pu' w) w w') (hne : ∀ k, k = m ∨ k = mk ∨ k = pu → k ≠ m' ∧ k ≠ mk' ∧ k ≠ pu') : IsShade w' m mk pu x := by
  have hf := h.free hs
  have one : ∀ k, (k = m ∨ k = mk ∨ k = pu) → ¬ Touch c w k → ¬ ShTouch c m' mk' pu' w k := fun k hk ht hz => by
    obtain ⟨n1, n2, n3⟩ := hne k hk
    rcases hz with e | e | e | e
    · exact n1 e
    · exact n2 e
    · exact n3 e
    · exact ht e
  exact h.fr hF (one m (.inl rfl) hf.1) (one mk (.inr (.inl rfl)) hf.2.1) (one pu (.inr (.inr rfl)) hf.2.2)

set_option maxHeartbeats 4000000 in
set_option maxRecDepth 100000 in
theorem shaded (w : World) : Calls Try.prog 13 #[] w fun e w' => e = .returned (.bool true) ∧ Below w.heap.size w w' := by
  have hlay := fun w => lay w 1 1 1 0 128 200 g_cells (by decide) (by decide) (by decide) (by decide)
  go_enter Try.func13, Try.ntmps13
  have KB := Lib.hid (Hp.blk_new w (.cells #[.int .i64 1, .int .i64 1, .int .i64 1] 23))
  have HB := Lib.hid ((Below.refl w.heap.size w).alloc (Nat.le_refl _) (.cells #[.int .i64 1, .int .i64 1, .int .i64 1] 23))
  (obtain ⟨c0, -⟩ := Hp.blk_cell KB.out 0 rfl)
  (obtain ⟨c1, -⟩ := Hp.blk_cell KB.out 1 rfl)
  (obtain ⟨c2, -⟩ := Hp.blk_cell KB.out 2 rfl)
  go_upto_region 5 with (first
    | (go_at_call 24; ((with_reducible refine (hlay _).mono ?_); clear hlay; rintro e w2 ⟨a, c, p, rfl, hS, hb⟩; (have HBs := Lib.hid HB.out.size); (have HS := Lib.hid (hS.mono HB.out.size)); clear c0 c1 c2; replace KB := Lib.hid (blk_below KB.out hb); replace HB := Lib.hid (HB.out.trans (hb.mono HB.out.size)); (obtain ⟨c0, -⟩ := Hp.blk_cell KB.out 0 rfl); (obtain ⟨c1, -⟩ := Hp.blk_cell KB.out 1 rfl); (obtain ⟨c2, -⟩ := Hp.blk_cell KB.out 2 rfl); clear hS hb)))
  go_upto_region 6 with (first
    | (go_at_call 11; ((with_reducible refine (windrowlaw08_plan.calls 1 1 1 1 1 1 _ g_plan).mono ?_); rintro e w3 ⟨rfl, hb⟩; replace HS := Lib.hid (HS.out.below hb); clear c0 c1 c2; replace KB := Lib.hid (blk_below KB.out hb); replace HB := Lib.hid (HB.out.trans (hb.mono HB.out.size)); (obtain ⟨c0, -⟩ := Hp.blk_cell KB.out 0 rfl); (obtain ⟨c1, -⟩ := Hp.blk_cell KB.out 1 rfl); (obtain ⟨c2, -⟩ := Hp.blk_cell KB.out 2 rfl); clear hb))
    | (go_at_call 12; ((with_reducible refine (newShade_yes _ 1 1 1 0 66 16 g_stat (by decide) 64 g_base (by decide) (by decide) g_ref.1 g_right).mono ?_); rintro e w4 ⟨m1, mk1, pu1, rfl, hlt, hX, hb⟩; (have HX1 := Lib.hid hX); (have M1 := Lib.hid (And.intro (Nat.le_trans HB.out.size hlt.1) (And.intro (Nat.le_trans HB.out.size hlt.2.1) (Nat.le_trans HB.out.size hlt.2.2)))); replace HS := Lib.hid (HS.out.below hb); clear c0 c1 c2; replace KB := Lib.hid (blk_below KB.out hb); replace HB := Lib.hid (HB.out.trans (hb.mono HB.out.size)); (obtain ⟨c0, -⟩ := Hp.blk_cell KB.out 0 rfl); (obtain ⟨c1, -⟩ := Hp.blk_cell KB.out 1 rfl); (obtain ⟨c2, -⟩ := Hp.blk_cell KB.out 2 rfl); clear hb hX hlt)))
  go_upto_region 9 with (first
    | (go_at_call 11; ((with_reducible refine (windrowlaw08_plan.calls 1 1 1 1 1 1 _ g_plan).mono ?_); rintro e w3 ⟨rfl, hb⟩; replace HS := Lib.hid (HS.out.below hb); replace HX1 := Lib.hid (HX1.out.below hb); clear c0 c1 c2; replace KB := Lib.hid (blk_below KB.out hb); replace HB := Lib.hid (HB.out.trans (hb.mono HB.out.size)); (obtain ⟨c0, -⟩ := Hp.blk_cell KB.out 0 rfl); (obtain ⟨c1, -⟩ := Hp.blk_cell KB.out 1 rfl); (obtain ⟨c2, -⟩ := Hp.blk_cell KB.out 2 rfl); clear hb))
    | (go_at_call 12; ((with_reducible refine (newShade_yes _ 1 1 1 0 66 16 g_stat (by decide) 64 g_base (by decide) (by decide) g_ref.1 g_right).mono ?_); rintro e w4 ⟨m2, mk2, pu2, rfl, hlt, hX, hb⟩; (have HLT1 := Lib.hid (sh_lt HX1.out)); (have HGE2 := Lib.hid hlt); replace HX1 := Lib.hid (HX1.out.below hb); (have HX2 := Lib.hid hX); (have M2 := Lib.hid (And.intro (Nat.le_trans HB.out.size hlt.1) (And.intro (Nat.le_trans HB.out.size hlt.2.1) (Nat.le_trans HB.out.size hlt.2.2)))); replace HS := Lib.hid (HS.out.below hb); clear c0 c1 c2; replace KB := Lib.hid (blk_below KB.out hb); replace HB := Lib.hid (HB.out.trans (hb.mono HB.out.size)); (obtain ⟨c0, -⟩ := Hp.blk_cell KB.out 0 rfl); (obtain ⟨c1, -⟩ := Hp.blk_cell KB.out 1 rfl); (obtain ⟨c2, -⟩ := Hp.blk_cell KB.out 2 rfl); clear hb hX hlt)))
  clear c0 c1 c2
  have HXo : Hid (∀ k, k = m2 ∨ k = mk2 ∨ k = pu2 → k ≠ m1 ∧ k ≠ mk1 ∧ k ≠ pu1) := Lib.hid (by
    obtain ⟨l1, l2, l3⟩ := HLT1.out
    obtain ⟨g1, g2, g3⟩ := HGE2.out
    rintro k (rfl | rfl | rfl) <;> (refine ⟨?_, ?_, ?_⟩ <;> omega))
  have HXo' : Hid (∀ k, k = m1 ∨ k = mk1 ∨ k = pu1 → k ≠ m2 ∧ k ≠ mk2 ∧ k ≠ pu2) := Lib.hid (by
    obtain ⟨l1, l2, l3⟩ := HLT1.out
    obtain ⟨g1, g2, g3⟩ := HGE2.out
    rintro k (rfl | rfl | rfl) <;> (refine ⟨?_, ?_, ?_⟩ <;> omega))
  go_upto_region 10 with (first
    | (go_at_call 30; ((have hm := finish_n HS.out 0 (g := false) (p := p) (who := 0) rfl HX1.out M1.out g_ok g_plok 5 (by decide) (by decide) g_run5.1 g_run g_slot (by simp)); (with_reducible refine hm.mono ?_); clear hm; rintro e w7 ⟨rfl, hX, ⟨ps', hi, -, hS⟩, hb, hF⟩; (have HX3 := Lib.hid (HX2.out.other HS.out hF HXo.out)); (have HX4 := Lib.hid hX); (have HS3 := Lib.hid hS); (have HI3 := Lib.hid hi); (have KB3 := Lib.hid (hF.blk KB.out (fun z => by rcases z with e | e | e | e; exact blk_ne KB.out HX1.out.blk (by decide) e; exact blk_ne KB.out HX1.out.mrk (by decide) e; exact blk_ne KB.out HX1.out.psh (by decide) e; exact not_touch KB.out (blk_ne KB.out (sys_cel HS.out) (by decide)) (by decide) e))); replace HB := Lib.hid (HB.out.trans hb); clear hX hS hi hb hF HX1 HX2 HS KB))
    | (go_at_call 30; ((have hm := finish_n HS3.out 0 (g := false) (p := p) (who := 0) HI3.out HX3.out M2.out g_ok g_plok 1 (by decide) (by decide) g_run1.1 (fun k hk => by obtain rfl : k = 0 := (by omega); exact (by decide)) (fun k hk => by obtain rfl : k = 0 := (by omega); exact fun h => absurd h (by decide)) g_run5.2.2); (with_reducible refine hm.mono ?_); clear hm; rintro e w8 ⟨rfl, hX, ⟨ps2, hi2, -, hS⟩, hb, hF⟩; (have HX5 := Lib.hid (HX4.out.other HS3.out hF HXo'.out)); (have HX6 := Lib.hid hX); (have HS4 := Lib.hid hS); (have KB := Lib.hid (hF.blk KB3.out (fun z => by rcases z with e | e | e | e; exact blk_ne KB3.out HX3.out.blk (by decide) e; exact blk_ne KB3.out HX3.out.mrk (by decide) e; exact blk_ne KB3.out HX3.out.psh (by decide) e; exact not_touch KB3.out (blk_ne KB3.out (sys_cel HS3.out) (by decide)) (by decide) e))); replace HB := Lib.hid (HB.out.trans hb); clear hX hS hb hF HX3 HX4 KB3 HS3 HI3)))
  (obtain ⟨c0, -⟩ := Hp.blk_cell KB.out 0 rfl)
  (obtain ⟨c1, -⟩ := Hp.blk_cell KB.out 1 rfl)
  (obtain ⟨c2, -⟩ := Hp.blk_cell KB.out 2 rfl)
  have hf1 := shade_fresh w8 m1 mk1 (some ⟨pu1, 0, none⟩) _ _ HX5.out.blk _ HX5.out.mrk
  have hf2 := shade_fresh w8 m2 mk2 (some ⟨pu2, 0, none⟩) _ _ HX6.out.blk _ HX6.out.mrk
  rw [show (SS.ms (shRun gL 0 gA gX 5).2).fresh = true from g_run5.2.1] at hf1
  rw [show (SS.ms (shRun gL 0 gA2 gX 1).2).fresh = false from g_run1.2.1] at hf2
  go_wp2_with (first
    | (go_at_call 19; ((with_reducible refine hf1.mono ?_); clear hf1; rintro e w9 ⟨rfl, hw⟩; obtain rfl := hw.symm))
    | (go_at_call 19; ((with_reducible refine hf2.mono ?_); clear hf2; rintro e w9 ⟨rfl, hw⟩; obtain rfl := hw.symm))
    | (go_at_call 11; ((with_reducible refine (windrowlaw08_plan.calls 1 1 1 1 1 1 _ g_plan).mono ?_); rintro e w3 ⟨rfl, hb⟩; replace HS4 := Lib.hid (HS4.out.below hb); clear c0 c1 c2; replace KB := Lib.hid (blk_below KB.out hb); replace HB := Lib.hid (HB.out.trans (hb.mono HB.out.size)); (obtain ⟨c0, -⟩ := Hp.blk_cell KB.out 0 rfl); (obtain ⟨c1, -⟩ := Hp.blk_cell KB.out 1 rfl); (obtain ⟨c2, -⟩ := Hp.blk_cell KB.out 2 rfl); clear hb))
    | (go_at_call 22; ((have hm := marked_sys _ HS4.out 1 1 1 66 g_ref.1 0 2 24 g_place.1 (by decide) g_mark g_run1.2.2.1); rw [g_run1.2.2.2.1] at hm; (with_reducible refine hm.mono ?_); clear hm; rintro e w9 ⟨rfl, hb⟩; replace HS4 := Lib.hid (HS4.out.below hb); clear c0 c1 c2; replace KB := Lib.hid (blk_below KB.out hb); replace HB := Lib.hid (HB.out.trans (hb.mono HB.out.size)); (obtain ⟨c0, -⟩ := Hp.blk_cell KB.out 0 rfl); (obtain ⟨c1, -⟩ := Hp.blk_cell KB.out 1 rfl); (obtain ⟨c2, -⟩ := Hp.blk_cell KB.out 2 rfl); clear hb))
    | (go_at_call 22; ((have hm := marked_sys _ HS4.out 1 1 1 67 g_ref.2 0 3 24 g_place.2 (by decide) g_mark g_run1.2.2.1); rw [g_run1.2.2.2.2] at hm; (with_reducible refine hm.mono ?_); clear hm; rintro e w9 ⟨rfl, hb⟩; replace HS4 := Lib.hid (HS4.out.below hb); clear c0 c1 c2; replace KB := Lib.hid (blk_below KB.out hb); replace HB := Lib.hid (HB.out.trans (hb.mono HB.out.size)); (obtain ⟨c0, -⟩ := Hp.blk_cell KB.out 0 rfl); (obtain ⟨c1, -⟩ := Hp.blk_cell KB.out 1 rfl); (obtain ⟨c2, -⟩ := Hp.blk_cell KB.out 2 rfl); clear hb)))
  go_ret
  exact ⟨rfl, HB.out⟩
end Go.Proofs.Ytcnledehnefldaa.Ar

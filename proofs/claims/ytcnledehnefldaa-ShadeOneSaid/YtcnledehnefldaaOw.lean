/- ShadeOne, walked: of many threads that shade one object just one is the first; its mark is set then, and no other object's. -/
import Derived.Test.YtcnledehnefldaaOq
import Derived.Test.YtcnledehnefldaaRk
namespace Go.Proofs.Ytcnledehnefldaa.Ar
open Go Go.RowKit Go.Proofs.Ytcnledehnefldaa.Hp Go.Proofs.Ytcnledehnefldaa.PH Go.Proofs.Ytcnledehnefldaa.Eo
open Go.Proofs.YtcnledehnefldaaW.PrintWords (Kd)
open Go.Proofs.YtcnledehnefldaaW.PrintLast (i64_w)
set_option linter.unusedVariables false
set_option linter.unusedSimpArgs false

set_option maxHeartbeats 8000000 in
set_option maxRecDepth 100000 in
theorem one_law (P0 T0 R0 ref0 : Int) (hw : 0 ≤ ref0 ∧ ref0 < 18446744073709551616) (A : Option Addr) (cp : Nat) (l : List Int) (set : Bool) (w : World) (hr : Kd.C (Kd.int .i64) w A l.length l) :
    Calls Try.prog 4 #[.agg #[.int .i64 P0, .int .i64 T0, .int .i64 R0, .int .u64 ref0, .slice A l.length cp, .bool set]] w fun e w' => e = .returned (.bool true) ∧ Below w.heap.size w w' := by
  have HR := Lib.hid hr
  have KB := Lib.hid (Hp.blk_new w (.cells #[.int .i64 P0, .int .i64 T0, .int .i64 R0, .int .u64 ref0, .slice A l.length cp, .bool set] 46))
  have HB := Lib.hid ((Below.refl w.heap.size w).alloc (Nat.le_refl _) (.cells #[.int .i64 P0, .int .i64 T0, .int .i64 R0, .int .u64 ref0, .slice A l.length cp, .bool set] 46))
  have hlen : l.length ≤ 9223372036854775807 := hr.2.1
  clear hr
  go_enter Try.func4, Try.ntmps4
  go_upto_region 1 with (fail)
  generalize w.alloc (.cells #[.int .i64 P0, .int .i64 T0, .int .i64 R0, .int .u64 ref0, .slice A l.length cp, .bool set] 46) = w0 at KB HB ⊢
  replace HB := Lib.hid HB.out.drew
  have KB1 : Hid (w0.drew.heap[w.heap.size]? = some (.cells #[.int .i64 P0, .int .i64 T0, .int .i64 R0, .int .u64 ref0, .slice A l.length cp, .bool set] 46 (0, 0))) := Lib.hid KB.out
  clear KB
  refine Rg.Upto.start (fun w' => w'.heap[w.heap.size]? = some (.cells #[.int .i64 P0, .int .i64 T0, .int .i64 R0, .int .u64 ref0, .slice A l.length cp, .bool set] 46 (0, 0))) 1000 (by kernel_rfl) KB1.out (fun HS0 => ?_)
  have HSC := HS0
  clear HS0
  refine Rg.Upto.takeA (i := 0) (v := ?_) rfl (by kernel_rfl) (by kernel_rfl) (by kernel_rfl) (of_decide_eq_true (by kernel_rfl)) (fun _ _ _ h => h) (by rfl) (fun w5 hS5 => ?_) HSC ?_
  rotate_left
  · clear hS5
    go_simp
    try rfl
  try simp only [Act.put, List.setIfInBounds_toArray, List.set_cons_zero, List.set_cons_succ]
  refine Rg.Upto.takeA (i := 1) (v := ?_) rfl (by kernel_rfl) (by kernel_rfl) (by kernel_rfl) (of_decide_eq_true (by kernel_rfl)) (fun _ _ _ h => h) (by rfl) (fun w5 hS5 => ?_) HSC ?_
  rotate_left
  · have c0 := (Hp.blk_cell hS5 0 rfl).1
    have c1 := (Hp.blk_cell hS5 1 rfl).1
    have c2 := (Hp.blk_cell hS5 2 rfl).1
    clear hS5
    go_simp
    try rfl
  try simp only [Act.put, List.setIfInBounds_toArray, List.set_cons_zero, List.set_cons_succ]
  refine Rg.Upto.takeA (i := 2) (v := ?_) rfl (by kernel_rfl) (by kernel_rfl) (by kernel_rfl) (of_decide_eq_true (by kernel_rfl)) (fun _ _ _ h => h) (by rfl) (fun w5 hS5 => ?_) HSC ?_
  rotate_left
  · clear hS5
    go_simp
    try rfl
  try simp only [Act.put, List.setIfInBounds_toArray, List.set_cons_zero, List.set_cons_succ]
  refine Rg.Upto.takeA (i := 3) (v := ?_) rfl (by kernel_rfl) (by kernel_rfl) (by kernel_rfl) (of_decide_eq_true (by kernel_rfl)) (fun _ _ _ h => h) (by rfl) (fun w5 hS5 => ?_) HSC ?_
  rotate_left
  · have c3 := (Hp.blk_cell hS5 3 rfl).1
    clear hS5
    go_simp
    try rfl
  try simp only [Act.put, List.setIfInBounds_toArray, List.set_cons_zero, List.set_cons_succ]
  refine Rg.Upto.takeA (i := 4) (v := ?_) rfl (by kernel_rfl) (by kernel_rfl) (by kernel_rfl) (of_decide_eq_true (by kernel_rfl)) (fun _ _ _ h => h) (by rfl) (fun w5 hS5 => ?_) HSC ?_
  rotate_left
  · clear hS5
    go_simp
    try rfl
  try simp only [Act.put, List.setIfInBounds_toArray, List.set_cons_zero, List.set_cons_succ]
  refine Rg.Upto.takeA (i := 5) (v := ?_) rfl (by kernel_rfl) (by kernel_rfl) (by kernel_rfl) (of_decide_eq_true (by kernel_rfl)) (fun _ _ _ h => h) (by rfl) (fun w5 hS5 => ?_) HSC ?_
  rotate_left
  · have c4 := (Hp.blk_cell hS5 4 rfl).1
    clear hS5
    go_simp
    try rfl
  try simp only [Act.put, List.setIfInBounds_toArray, List.set_cons_zero, List.set_cons_succ]
  refine Rg.Upto.takeA (i := 6) (v := ?_) rfl (by kernel_rfl) (by kernel_rfl) (by kernel_rfl) (of_decide_eq_true (by kernel_rfl)) (fun _ _ _ h => h) (by rfl) (fun w5 hS5 => ?_) HSC ?_
  rotate_left
  · clear hS5
    go_simp
    try rfl
  try simp only [Act.put, List.setIfInBounds_toArray, List.set_cons_zero, List.set_cons_succ]
  refine Rg.Upto.takeA (i := 7) (v := ?_) rfl (by kernel_rfl) (by kernel_rfl) (by kernel_rfl) (of_decide_eq_true (by kernel_rfl)) (fun _ _ _ h => h) (by rfl) (fun w5 hS5 => ?_) HSC ?_
  rotate_left
  · have c5 := (Hp.blk_cell hS5 5 rfl).1
    clear hS5
    go_simp
    try rfl
  try simp only [Act.put, List.setIfInBounds_toArray, List.set_cons_zero, List.set_cons_succ]
  refine Rg.Upto.one (i := 8) rfl (by kernel_rfl) (by rfl) (fun KK hK => ?_)
  go_simp
  have KB2 : Hid ((w0.alloc (.cells #[.int .i64 0, .int .i64 0, .int .i64 0] 23)).drew.heap[w.heap.size]? = some (.cells #[.int .i64 P0, .int .i64 T0, .int .i64 R0, .int .u64 ref0, .slice A l.length cp, .bool set] 46 (0, 0))) := Lib.hid (Hp.blk_alloc (w := w0) KB1.out _)
  have KQ : Hid ((w0.alloc (.cells #[.int .i64 0, .int .i64 0, .int .i64 0] 23)).drew.heap[w0.heap.size]? = some (.cells #[.int .i64 0, .int .i64 0, .int .i64 0] 23 (0, 0))) := Lib.hid (Hp.blk_new w0 _)
  refine hK.out _ _ KB2.out ?_
  clear hK KK
  try simp only [Act.put, List.setIfInBounds_toArray, List.set_cons_zero, List.set_cons_succ]
  refine Rg.Upto.one (i := 9) rfl (by kernel_rfl) (by rfl) (fun KK hK => ?_)
  obtain ⟨c0, d0⟩ := Hp.blk_cell KQ.out 0 rfl
  obtain ⟨c1, d1⟩ := Hp.blk_cell KQ.out 1 rfl
  obtain ⟨c2, d2⟩ := Hp.blk_cell KQ.out 2 rfl
  go_simp
  have KB3 : Hid ((w0.alloc (.cells #[.int .i64 P0, .int .i64 T0, .int .i64 R0] 23)).drew.heap[w.heap.size]? = some (.cells #[.int .i64 P0, .int .i64 T0, .int .i64 R0, .int .u64 ref0, .slice A l.length cp, .bool set] 46 (0, 0))) := Lib.hid (Hp.blk_alloc (w := w0) KB1.out _)
  refine hK.out _ _ KB3.out ?_
  clear hK KK c0 d0 c1 d1 c2 d2
  try simp only [Act.put, List.setIfInBounds_toArray, List.set_cons_zero, List.set_cons_succ]
  have HSC := KB3.out
  refine Rg.Upto.takeA (i := 10) (v := ?_) rfl (by kernel_rfl) (by kernel_rfl) (by kernel_rfl) (of_decide_eq_true (by kernel_rfl)) (fun _ _ _ h => h) (by rfl) (fun w5 hS5 => ?_) HSC ?_
  rotate_left
  · clear hS5
    go_simp
    try rfl
  try simp only [Act.put, List.setIfInBounds_toArray, List.set_cons_zero, List.set_cons_succ]
  refine Rg.Upto.takeA (i := 11) (v := ?_) rfl (by kernel_rfl) (by kernel_rfl) (by kernel_rfl) (of_decide_eq_true (by kernel_rfl)) (fun _ _ _ h => h) (by rfl) (fun w5 hS5 => ?_) HSC ?_
  rotate_left
  · clear hS5
    go_simp
    try rfl
  try simp only [Act.put, List.setIfInBounds_toArray, List.set_cons_zero, List.set_cons_succ]
  refine Rg.Upto.takeA (i := 12) (v := ?_) rfl (by kernel_rfl) (by kernel_rfl) (by kernel_rfl) (of_decide_eq_true (by kernel_rfl)) (fun _ _ _ h => h) (by rfl) (fun w5 hS5 => ?_) HSC ?_
  rotate_left
  · clear hS5
    go_simp
    try rfl
  try simp only [Act.put, List.setIfInBounds_toArray, List.set_cons_zero, List.set_cons_succ]
  refine Rg.Upto.done (by kernel_rfl) ?_
  clear HSC KB1 KB2 KB3 KQ
  have KQ : Hid ((w0.alloc (.cells #[.int .i64 P0, .int .i64 T0, .int .i64 R0] 23)).drew.heap[w0.heap.size]? = some (.cells #[.int .i64 P0, .int .i64 T0, .int .i64 R0] 23 (0, 0))) := Lib.hid (Hp.blk_new w0 _)
  have HQ0 := Lib.hid HB.out.size
  replace HB : Hid (Below w.heap.size w (w0.alloc (.cells #[.int .i64 P0, .int .i64 T0, .int .i64 R0] 23)).drew) := Lib.hid (HB.out.alloc HB.out.size _)
  have HQ1 : Hid (w.heap.size ≤ w0.heap.size) := Lib.hid HQ0.out
  clear HQ0
  generalize (w0.alloc (.cells #[.int .i64 P0, .int .i64 T0, .int .i64 R0] 23)).drew = w1 at KQ HB ⊢
  generalize w0.heap.size = qb at KQ HQ1 ⊢
  obtain ⟨P, T, R, hrt, hP3, hT4, hsm⟩ := small_yes P0 T0 R0
  have HSM := Lib.hid hsm
  have HRT := Lib.hid hrt
  have HP3 := Lib.hid (And.intro hP3 hT4)
  clear hsm hrt hP3 hT4
  obtain ⟨c0, d0⟩ := Hp.blk_cell KQ.out 0 rfl
  obtain ⟨c1, d1⟩ := Hp.blk_cell KQ.out 1 rfl
  obtain ⟨c2, d2⟩ := Hp.blk_cell KQ.out 2 rfl
  go_upto_region 5 with (first
    | (go_at_call 13; ((with_reducible refine (shaded _).mono ?_); rintro e w2 ⟨rfl, hb⟩; clear c0 c1 c2 d0 d1 d2; replace KQ := Lib.hid (blk_below KQ.out hb); replace HB := Lib.hid (HB.out.trans (hb.mono HB.out.size)); (obtain ⟨c0, d0⟩ := Hp.blk_cell KQ.out 0 rfl); (obtain ⟨c1, d1⟩ := Hp.blk_cell KQ.out 1 rfl); (obtain ⟨c2, d2⟩ := Hp.blk_cell KQ.out 2 rfl); clear hb))
    | (go_at_call 23; ((with_reducible refine (windrowlaw08_small.calls P0 T0 R0 _ _ _ _ HSM.out).mono ?_); rintro e w3 ⟨rfl, hb⟩; clear c0 c1 c2 d0 d1 d2; replace KQ := Lib.hid (blk_below KQ.out hb); replace HB := Lib.hid (HB.out.trans (hb.mono HB.out.size)); (obtain ⟨c0, d0⟩ := Hp.blk_cell KQ.out 0 rfl); (obtain ⟨c1, d1⟩ := Hp.blk_cell KQ.out 1 rfl); (obtain ⟨c2, d2⟩ := Hp.blk_cell KQ.out 2 rfl); clear hb)))
  clear c0 c1 c2 d0 d1 d2
  have KQ4 : Hid ((((w3.setCell ⟨qb, 0, none⟩ (.int .i64 P)).setCell ⟨qb, 1, none⟩ (.int .i64 T)).setCell ⟨qb, 2, none⟩ (.int .i64 R)).heap[qb]? = some (.cells #[.int .i64 P, .int .i64 T, .int .i64 R] 23 (0, 0))) := Lib.hid (Hp.blk_set (Hp.blk_set (Hp.blk_set KQ.out 0 _) 1 _) 2 _)
  replace HB : Hid (Below w.heap.size w (((w3.setCell ⟨qb, 0, none⟩ (.int .i64 P)).setCell ⟨qb, 1, none⟩ (.int .i64 T)).setCell ⟨qb, 2, none⟩ (.int .i64 R))) := Lib.hid (((HB.out.setCell (p := ⟨qb, 0, none⟩) HQ1.out _).setCell (p := ⟨qb, 1, none⟩) HQ1.out _).setCell (p := ⟨qb, 2, none⟩) HQ1.out _)
  clear KQ
  generalize (((w3.setCell ⟨qb, 0, none⟩ (.int .i64 P)).setCell ⟨qb, 1, none⟩ (.int .i64 T)).setCell ⟨qb, 2, none⟩ (.int .i64 R)) = w4 at KQ4 HB ⊢
  have KQ := KQ4
  clear KQ4
  obtain ⟨c0, d0⟩ := Hp.blk_cell KQ.out 0 rfl
  obtain ⟨c1, d1⟩ := Hp.blk_cell KQ.out 1 rfl
  obtain ⟨c2, d2⟩ := Hp.blk_cell KQ.out 2 rfl
  obtain ⟨K, hK0⟩ := Lay.draw_ev HRT.out
  have HDr : Hid (windrowref06_Draw.f K P T R = some ((P : Int), (T : Int), (R : Int), ((Lay.bs P T R : Nat) : Int), ((Lay.tb T R : Nat) : Int), ((Lay.cl P T R : Nat) : Int))) := Lib.hid (hK0 K (Nat.le_refl _))
  obtain ⟨K2, hK2⟩ := Lay.cells_ev HRT.out
  have HCl : Hid (windrowref06_Cells.f K2 P T R = some ((Lay.cl P T R : Nat) : Int)) := Lib.hid (hK2 K2 (Nat.le_refl _))
  have HCL := Lib.hid (one_cl HRT.out)
  obtain ⟨o1, o2⟩ := or1 hw
  obtain ⟨pg, b, hpg, hb64, hrf, hhp⟩ := refers_yes HRT.out o1 o2
  have HPG := Lib.hid (And.intro hpg hb64)
  have HRF := Lib.hid hrf
  have HHP := Lib.hid hhp
  obtain ⟨ref, href⟩ : ∃ ref, ref = ((Lay.bs P T R + 64 * pg + b : Nat) : Int) := ⟨_, rfl⟩
  rw [← href] at HRF HHP
  have HREF := Lib.hid href
  clear hK0 hK2 hw o1 o2 hpg hb64 hrf hhp href
  go_upto_region 8 with (first
    | (go_at_call 24; ((with_reducible refine (lay _ P T R 1 (Lay.cl P T R) K2 HCl.out HCL.out.1 HCL.out.2 (by decide) (by decide)).mono ?_); rintro e w5 ⟨a, c, p, rfl, hS, hb⟩; (have HS := Lib.hid (hS.mono HB.out.size)); clear c0 c1 c2 d0 d1 d2; replace KQ := Lib.hid (blk_below KQ.out hb); replace HB := Lib.hid (HB.out.trans (hb.mono HB.out.size)); (obtain ⟨c0, d0⟩ := Hp.blk_cell KQ.out 0 rfl); (obtain ⟨c1, d1⟩ := Hp.blk_cell KQ.out 1 rfl); (obtain ⟨c2, d2⟩ := Hp.blk_cell KQ.out 2 rfl); clear hb hS)))
  go_upto_region 9 with (first
    | (go_at_call 9; ((with_reducible refine (windrowref06_Draw.calls K P T R _ _ _ _ _ _ _ HDr.out).mono ?_); rintro e w6 ⟨rfl, hb⟩; replace HS := Lib.hid (HS.out.below hb); clear c0 c1 c2 d0 d1 d2; replace KQ := Lib.hid (blk_below KQ.out hb); replace HB := Lib.hid (HB.out.trans (hb.mono HB.out.size)); (obtain ⟨c0, d0⟩ := Hp.blk_cell KQ.out 0 rfl); (obtain ⟨c1, d1⟩ := Hp.blk_cell KQ.out 1 rfl); (obtain ⟨c2, d2⟩ := Hp.blk_cell KQ.out 2 rfl); clear hb)))
  clear c0 c1 c2 d0 d1 d2
  have KD : Hid ((w6.alloc (.cells #[.int .i64 P, .int .i64 T, .int .i64 R, .int .i64 (Lay.bs P T R : Nat), .int .i64 (Lay.tb T R : Nat), .int .i64 (Lay.cl P T R : Nat)] 28)).heap[w6.heap.size]? = some (.cells #[.int .i64 P, .int .i64 T, .int .i64 R, .int .i64 (Lay.bs P T R : Nat), .int .i64 (Lay.tb T R : Nat), .int .i64 (Lay.cl P T R : Nat)] 28 (0, 0))) := Lib.hid (Hp.blk_new w6 _)
  replace KQ := Lib.hid (Hp.blk_alloc KQ.out (.cells #[.int .i64 P, .int .i64 T, .int .i64 R, .int .i64 (Lay.bs P T R : Nat), .int .i64 (Lay.tb T R : Nat), .int .i64 (Lay.cl P T R : Nat)] 28))
  replace HS := Lib.hid (HS.out.alloc (.cells #[.int .i64 P, .int .i64 T, .int .i64 R, .int .i64 (Lay.bs P T R : Nat), .int .i64 (Lay.tb T R : Nat), .int .i64 (Lay.cl P T R : Nat)] 28))
  have HD1 := Lib.hid HB.out.size
  replace HB := Lib.hid (HB.out.alloc HB.out.size (.cells #[.int .i64 P, .int .i64 T, .int .i64 R, .int .i64 (Lay.bs P T R : Nat), .int .i64 (Lay.tb T R : Nat), .int .i64 (Lay.cl P T R : Nat)] 28))
  generalize w6.heap.size = db at KD HD1 ⊢
  generalize w6.alloc (.cells #[.int .i64 P, .int .i64 T, .int .i64 R, .int .i64 (Lay.bs P T R : Nat), .int .i64 (Lay.tb T R : Nat), .int .i64 (Lay.cl P T R : Nat)] 28) = w7 at KD KQ HS HB ⊢
  (obtain ⟨e0, f0⟩ := Hp.blk_cell KD.out 0 rfl)
  (obtain ⟨e1, f1⟩ := Hp.blk_cell KD.out 1 rfl)
  (obtain ⟨e2, f2⟩ := Hp.blk_cell KD.out 2 rfl)
  (obtain ⟨e3, f3⟩ := Hp.blk_cell KD.out 3 rfl)
  (obtain ⟨e4, f4⟩ := Hp.blk_cell KD.out 4 rfl)
  (obtain ⟨e5, f5⟩ := Hp.blk_cell KD.out 5 rfl)
  go_upto_region 11 with (first
    | (go_at_call 25; ((with_reducible refine (windrowlaw08_refers.calls _ _ _ _ _ _ _ _ _ HRF.out).mono ?_); rintro e w8 ⟨rfl, hb⟩; clear e0 f0 e1 f1 e2 f2 e3 f3 e4 f4 e5 f5; replace KQ := Lib.hid (blk_below KQ.out hb); replace KD := Lib.hid (blk_below KD.out hb); replace HS := Lib.hid (HS.out.below hb); replace HB := Lib.hid (HB.out.trans (hb.mono HB.out.size)); (obtain ⟨e0, f0⟩ := Hp.blk_cell KD.out 0 rfl); (obtain ⟨e1, f1⟩ := Hp.blk_cell KD.out 1 rfl); (obtain ⟨e2, f2⟩ := Hp.blk_cell KD.out 2 rfl); (obtain ⟨e3, f3⟩ := Hp.blk_cell KD.out 3 rfl); (obtain ⟨e4, f4⟩ := Hp.blk_cell KD.out 4 rfl); (obtain ⟨e5, f5⟩ := Hp.blk_cell KD.out 5 rfl); clear hb))
    | (go_at_call 26; ((with_reducible refine (windrowref06_Map_Heap.calls _ _ _ _ _ _ _ _ _ _ HHP.out).mono ?_); rintro e w9 ⟨rfl, hb⟩; clear e0 f0 e1 f1 e2 f2 e3 f3 e4 f4 e5 f5; replace KQ := Lib.hid (blk_below KQ.out hb); replace KD := Lib.hid (blk_below KD.out hb); replace HS := Lib.hid (HS.out.below hb); replace HB := Lib.hid (HB.out.trans (hb.mono HB.out.size)); (obtain ⟨e0, f0⟩ := Hp.blk_cell KD.out 0 rfl); (obtain ⟨e1, f1⟩ := Hp.blk_cell KD.out 1 rfl); (obtain ⟨e2, f2⟩ := Hp.blk_cell KD.out 2 rfl); (obtain ⟨e3, f3⟩ := Hp.blk_cell KD.out 3 rfl); (obtain ⟨e4, f4⟩ := Hp.blk_cell KD.out 4 rfl); (obtain ⟨e5, f5⟩ := Hp.blk_cell KD.out 5 rfl); clear hb)))
  clear e0 f0 e1 f1 e2 f2 e3 f3 e4 f4 e5 f5
  go_cut [64] (fun v64 wc => v64 = .bool false ∧ ∃ s, Hid (OneI P T R pg b ref set s []) ∧ Hid (s.log.length = 0) ∧ Hid (Sys w.heap.size wc a c s [(p, 1, false)]) ∧ Hid (wc.heap[qb]? = some (.cells #[.int .i64 P, .int .i64 T, .int .i64 R] 23 (0, 0))) ∧ Hid (wc.heap[db]? = some (.cells #[.int .i64 P, .int .i64 T, .int .i64 R, .int .i64 (Lay.bs P T R : Nat), .int .i64 (Lay.tb T R : Nat), .int .i64 (Lay.cl P T R : Nat)] 28 (0, 0))) ∧ Hid (Below w.heap.size w wc))
  case first =>
    replace HS := Lib.hid (HS.out.still ((Fr.refl _ _).drew))
    replace HB := Lib.hid HB.out.drew
    have KD1 : Hid (w9.drew.heap[db]? = some (.cells #[.int .i64 P, .int .i64 T, .int .i64 R, .int .i64 (Lay.bs P T R : Nat), .int .i64 (Lay.tb T R : Nat), .int .i64 (Lay.cl P T R : Nat)] 28 (0, 0))) := Lib.hid KD.out
    have KQ1 : Hid (w9.drew.heap[qb]? = some (.cells #[.int .i64 P, .int .i64 T, .int .i64 R] 23 (0, 0))) := Lib.hid KQ.out
    clear KD KQ
    cases set
    · refine Rg.Upto.start (fun w' => True) 1000 (by kernel_rfl) trivial (fun HS0 => ?_)
      have HSC := HS0
      clear HS0
      refine Rg.Upto.takeA (i := 0) (v := ?_) rfl (by kernel_rfl) (by kernel_rfl) (by kernel_rfl) (of_decide_eq_true (by kernel_rfl)) (fun _ _ _ h => h) (by rfl) (fun w5 hS5 => ?_) HSC ?_
      rotate_left
      · clear hS5
        go_simp
        try rfl
      try simp only [Act.put, List.setIfInBounds_toArray, List.set_cons_zero, List.set_cons_succ]
      refine Rg.Upto.takeA (i := 1) (v := ?_) rfl (by kernel_rfl) (by kernel_rfl) (by kernel_rfl) (of_decide_eq_true (by kernel_rfl)) (fun _ _ _ h => h) (by rfl) (fun w5 hS5 => ?_) HSC ?_
      rotate_left
      · clear hS5
        go_simp
        try rfl
      try simp only [Act.put, List.setIfInBounds_toArray, List.set_cons_zero, List.set_cons_succ]
      refine Rg.Upto.skipA (i := 2) rfl (by kernel_rfl) (by kernel_rfl) (by kernel_rfl) (of_decide_eq_true (by kernel_rfl)) (fun _ _ _ h => h) (by rfl) HSC ?_
      try simp only [Act.put, List.setIfInBounds_toArray, List.set_cons_zero, List.set_cons_succ]
      refine Rg.Upto.skipA (i := 3) rfl (by kernel_rfl) (by kernel_rfl) (by kernel_rfl) (of_decide_eq_true (by kernel_rfl)) (fun _ _ _ h => h) (by rfl) HSC ?_
      try simp only [Act.put, List.setIfInBounds_toArray, List.set_cons_zero, List.set_cons_succ]
      refine Rg.Upto.skipA (i := 4) rfl (by kernel_rfl) (by kernel_rfl) (by kernel_rfl) (of_decide_eq_true (by kernel_rfl)) (fun _ _ _ h => h) (by rfl) HSC ?_
      try simp only [Act.put, List.setIfInBounds_toArray, List.set_cons_zero, List.set_cons_succ]
      refine Rg.Upto.skipA (i := 5) rfl (by kernel_rfl) (by kernel_rfl) (by kernel_rfl) (of_decide_eq_true (by kernel_rfl)) (fun _ _ _ h => h) (by rfl) HSC ?_
      try simp only [Act.put, List.setIfInBounds_toArray, List.set_cons_zero, List.set_cons_succ]
      refine Rg.Upto.skipA (i := 6) rfl (by kernel_rfl) (by kernel_rfl) (by kernel_rfl) (of_decide_eq_true (by kernel_rfl)) (fun _ _ _ h => h) (by rfl) HSC ?_
      try simp only [Act.put, List.setIfInBounds_toArray, List.set_cons_zero, List.set_cons_succ]
      refine Rg.Upto.skipA (i := 7) rfl (by kernel_rfl) (by kernel_rfl) (by kernel_rfl) (of_decide_eq_true (by kernel_rfl)) (fun _ _ _ h => h) (by rfl) HSC ?_
      try simp only [Act.put, List.setIfInBounds_toArray, List.set_cons_zero, List.set_cons_succ]
      refine Rg.Upto.skipA (i := 8) rfl (by kernel_rfl) (by kernel_rfl) (by kernel_rfl) (of_decide_eq_true (by kernel_rfl)) (fun _ _ _ h => h) (by rfl) HSC ?_
      try simp only [Act.put, List.setIfInBounds_toArray, List.set_cons_zero, List.set_cons_succ]
      refine Rg.Upto.skipA (i := 9) rfl (by kernel_rfl) (by kernel_rfl) (by kernel_rfl) (of_decide_eq_true (by kernel_rfl)) (fun _ _ _ h => h) (by rfl) HSC ?_
      try simp only [Act.put, List.setIfInBounds_toArray, List.set_cons_zero, List.set_cons_succ]
      refine Rg.Upto.takeA (i := 10) (v := ?_) rfl (by kernel_rfl) (by kernel_rfl) (by kernel_rfl) (of_decide_eq_true (by kernel_rfl)) (fun _ _ _ h => h) (by rfl) (fun w5 hS5 => ?_) HSC ?_
      rotate_left
      · clear hS5
        go_simp
        try rfl
      try simp only [Act.put, List.setIfInBounds_toArray, List.set_cons_zero, List.set_cons_succ]
      refine Rg.Upto.done (by kernel_rfl) ?_
      go_wp2_with (fail)
      go_meet
      exact ⟨rfl, _, Lib.hid (one_start0 HRT.out), Lib.hid rfl, HS, KQ1, KD1, HB⟩
    · refine Rg.Upto.start (fun w' => w'.heap[db]? = some (.cells #[.int .i64 P, .int .i64 T, .int .i64 R, .int .i64 (Lay.bs P T R : Nat), .int .i64 (Lay.tb T R : Nat), .int .i64 (Lay.cl P T R : Nat)] 28 (0, 0))) 1000 (by kernel_rfl) KD1.out (fun HS0 => ?_)
      have HSC := HS0
      clear HS0
      refine Rg.Upto.takeA (i := 0) (v := ?_) rfl (by kernel_rfl) (by kernel_rfl) (by kernel_rfl) (of_decide_eq_true (by kernel_rfl)) (fun _ _ _ h => h) (by rfl) (fun w5 hS5 => ?_) HSC ?_
      rotate_left
      · clear hS5
        go_simp
        try rfl
      try simp only [Act.put, List.setIfInBounds_toArray, List.set_cons_zero, List.set_cons_succ]
      refine Rg.Upto.takeA (i := 1) (v := ?_) rfl (by kernel_rfl) (by kernel_rfl) (by kernel_rfl) (of_decide_eq_true (by kernel_rfl)) (fun _ _ _ h => h) (by rfl) (fun w5 hS5 => ?_) HSC ?_
      rotate_left
      · clear hS5
        go_simp
        try rfl
      try simp only [Act.put, List.setIfInBounds_toArray, List.set_cons_zero, List.set_cons_succ]
      refine Rg.Upto.takeA (i := 2) (v := ?_) rfl (by kernel_rfl) (by kernel_rfl) (by kernel_rfl) (of_decide_eq_true (by kernel_rfl)) (fun _ _ _ h => h) (by rfl) (fun w5 hS5 => ?_) HSC ?_
      rotate_left
      · clear hS5
        go_simp
        try rfl
      try simp only [Act.put, List.setIfInBounds_toArray, List.set_cons_zero, List.set_cons_succ]
      refine Rg.Upto.takeA (i := 3) (v := ?_) rfl (by kernel_rfl) (by kernel_rfl) (by kernel_rfl) (of_decide_eq_true (by kernel_rfl)) (fun _ _ _ h => h) (by rfl) (fun w5 hS5 => ?_) HSC ?_
      rotate_left
      · have c0 := (Hp.blk_cell hS5 0 rfl).1
        have c1 := (Hp.blk_cell hS5 1 rfl).1
        have c2 := (Hp.blk_cell hS5 2 rfl).1
        have c3 := (Hp.blk_cell hS5 3 rfl).1
        have c4 := (Hp.blk_cell hS5 4 rfl).1
        have c5 := (Hp.blk_cell hS5 5 rfl).1
        clear hS5
        go_simp
        try rfl
      try simp only [Act.put, List.setIfInBounds_toArray, List.set_cons_zero, List.set_cons_succ]
      refine Rg.Upto.takeA (i := 4) (v := ?_) rfl (by kernel_rfl) (by kernel_rfl) (by kernel_rfl) (of_decide_eq_true (by kernel_rfl)) (fun _ _ _ h => h) (by rfl) (fun w5 hS5 => ?_) HSC ?_
      rotate_left
      · clear hS5
        go_simp
        try rfl
      try simp only [Act.put, List.setIfInBounds_toArray, List.set_cons_zero, List.set_cons_succ]
      refine Rg.Upto.takeA (i := 6) (v := ?_) rfl (by kernel_rfl) (by kernel_rfl) (by kernel_rfl) (of_decide_eq_true (by kernel_rfl)) (fun _ _ _ h => h) (by rfl) (fun w5 hS5 => ?_) HSC ?_
      rotate_left
      · clear hS5
        go_simp
        try rfl
      try simp only [Act.put, List.setIfInBounds_toArray, List.set_cons_zero, List.set_cons_succ]
      refine Rg.Upto.takeA (i := 7) (v := ?_) rfl (by kernel_rfl) (by kernel_rfl) (by kernel_rfl) (of_decide_eq_true (by kernel_rfl)) (fun _ _ _ h => h) (by rfl) (fun w5 hS5 => ?_) HSC ?_
      rotate_left
      · clear hS5
        go_simp
        try rfl
      try simp only [Act.put, List.setIfInBounds_toArray, List.set_cons_zero, List.set_cons_succ]
      refine Rg.Upto.one (i := 5) rfl (by kernel_rfl) (by rfl) (fun KK hK => ?_)
      go_simp
      (with_reducible refine (windrowref06_Map_Mark.calls _ _ _ _ _ _ _ _ _ (mark_at HRT.out HPG.out.1 _ _)).mono ?_)
      rintro e w10 ⟨rfl, hb⟩
      have KD2 := Lib.hid (blk_below KD1.out hb)
      have KQ2 := Lib.hid (blk_below KQ1.out hb)
      clear KD1 KQ1 HSC
      replace HS := Lib.hid (HS.out.below hb)
      replace HB := Lib.hid (HB.out.trans (hb.mono HB.out.size))
      refine hK.out _ _ KD2.out ?_
      clear hK KK hb
      try simp only [Act.put, List.setIfInBounds_toArray, List.set_cons_zero, List.set_cons_succ]
      refine Rg.Upto.one (i := 8) rfl (by kernel_rfl) (by rfl) (fun KK hK => ?_)
      go_simp
      rw [show ((Lay.tb T R : Nat) : Int) + 2 * (P : Int) + (pg : Int) = ((Lay.tb T R + 2 * P + pg : Nat) : Int) from by push_cast; rfl, show IntKind.u64.wrap (2 ^ min b 64) = bitOf (b : Int) from rfl]
      (with_reducible refine (HS.out.poke ((Lay.tb T R + 2 * P + pg : Nat) : Int) (bitOf (b : Int)) (mark_has HRT.out HPG.out.1)).mono ?_)
      rintro e w11 ⟨rfl, hD⟩
      have KD3 := Lib.hid (hD.fr.blk KD2.out (not_touch KD2.out (blk_ne KD2.out (sys_cel HS.out) (by decide)) (by decide)))
      have KQ3 := Lib.hid (hD.fr.blk KQ2.out (not_touch KQ2.out (blk_ne KQ2.out (sys_cel HS.out) (by decide)) (by decide)))
      have HS3 := Lib.hid hD.sys
      replace HB := Lib.hid (HB.out.trans hD.bel)
      clear KD2 KQ2 HS
      refine hK.out _ _ KD3.out ?_
      clear hK KK hD
      have HSC := KD3.out
      try simp only [Act.put, List.setIfInBounds_toArray, List.set_cons_zero, List.set_cons_succ]
      refine Rg.Upto.takeA (i := 9) (v := ?_) rfl (by kernel_rfl) (by kernel_rfl) (by kernel_rfl) (of_decide_eq_true (by kernel_rfl)) (fun _ _ _ h => h) (by rfl) (fun w5 hS5 => ?_) HSC ?_
      rotate_left
      · clear hS5
        go_simp
        try rfl
      try simp only [Act.put, List.setIfInBounds_toArray, List.set_cons_zero, List.set_cons_succ]
      refine Rg.Upto.takeA (i := 10) (v := ?_) rfl (by kernel_rfl) (by kernel_rfl) (by kernel_rfl) (of_decide_eq_true (by kernel_rfl)) (fun _ _ _ h => h) (by rfl) (fun w5 hS5 => ?_) HSC ?_
      rotate_left
      · clear hS5
        go_simp
        try rfl
      try simp only [Act.put, List.setIfInBounds_toArray, List.set_cons_zero, List.set_cons_succ]
      refine Rg.Upto.done (by kernel_rfl) ?_
      go_wp2_with (fail)
      go_meet
      exact ⟨rfl, _, Lib.hid (one_start1 HRT.out HPG.out.1 HPG.out.2), Lib.hid rfl, HS3, KQ3, KD3, HB⟩
  case rest =>
    obtain ⟨rfl, s0, HI, HLg, HS, KQ, KD, HB⟩ := hcut
    have hTb := HRT.out.2.2.1
    have hP34 := HP3.out
    obtain ⟨i1, hi1, hy0, hy1, hy2⟩ : ∃ i, Try.prog.info? 36 = some i ∧ i.zero = some (.pointer none) ∧ i.size = 1 ∧ i.bytes = 8 := by
      have h := infoSh
      cases hh : Try.prog.info? 36 with
      | none => rw [hh] at h; cases h
      | some i =>
        rw [hh] at h
        simp only [Option.map_some, Option.some.injEq, Prod.mk.injEq] at h
        exact ⟨i, rfl, h.1, h.2.1, h.2.2⟩
    go_wp2_with (fail)
    go_loopw [13, 14] (fun v13 v14 wr => ∃ (k : Nat) (ls : List (Nat × Nat × Nat)) (xs : List SS), k ≤ T ∧ v14 = .int .i64 k ∧ Hid (xs.length = k) ∧ Hid (OneI P T R pg b ref set s0 xs) ∧ Hid (Shs w.heap.size wr ls xs) ∧ Hid (Sys w.heap.size wr a c s0 [(p, 1, false)]) ∧ Hid (wr.heap[qb]? = some (.cells #[.int .i64 P, .int .i64 T, .int .i64 R] 23 (0, 0))) ∧ Hid (wr.heap[db]? = some (.cells #[.int .i64 P, .int .i64 T, .int .i64 R, .int .i64 (Lay.bs P T R : Nat), .int .i64 (Lay.tb T R : Nat), .int .i64 (Lay.cl P T R : Nat)] 28 (0, 0))) ∧ Hid (wr.ownsRow w.heap.size 36 1 v13 k (ptrs (ls.map (·.1)))) ∧ Hid (Below w.heap.size w wr)) (fun v13 v14 _ => 8 - (intOf v14).toNat)
    case atStart => exact ⟨0, [], [], by omega, rfl, Lib.hid rfl, HI, Lib.hid (Shs.nil _ _), HS, KQ, KD, Lib.hid (World.ownsRow_nil _ _ _ _), HB⟩
    case round =>
      obtain ⟨k, ls, xs, hk, rfl, HXl, HI1, HSh, HS1, KQ, KD, HRw, HB⟩ := hrel
      clear HI HS
      (obtain ⟨c0, -⟩ := Hp.blk_cell KQ.out 0 rfl)
      (obtain ⟨c1, -⟩ := Hp.blk_cell KQ.out 1 rfl)
      (obtain ⟨c2, -⟩ := Hp.blk_cell KQ.out 2 rfl)
      by_cases hk4 : k < T
      · have HNW := Lib.hid (one_new HRT.out HPG.out.1 HPG.out.2 HREF.out hk4)
        have h1 : (k : Int) < (T : Int) := by omega
        go_wp2_with (first
          | (go_at_call 11; ((with_reducible refine (windrowlaw08_plan.calls P T R P T R _ rfl).mono ?_); rintro e w3 ⟨rfl, hb⟩; (try clear c0 c1 c2); replace KQ := Lib.hid (blk_below KQ.out hb); replace KD := Lib.hid (blk_below KD.out hb); replace HS1 := Lib.hid (HS1.out.below hb); replace HSh := Lib.hid (HSh.out.below hb); replace HRw := Lib.hid (own_bel HRw.out hb); replace HB := Lib.hid (HB.out.trans (hb.mono HB.out.size)); clear hb))
          | (go_at_call 12; ((with_reducible refine (newShade_yes _ P T R k ref _ HNW.out.1 (Int.natCast_nonneg _) _ HNW.out.2.1 (Int.natCast_nonneg _) HNW.out.2.2.1 HNW.out.2.2.2.1 HNW.out.2.2.2.2).mono ?_); rintro e w4 ⟨m, mk, pu, rfl, hlt, hX, hb⟩; (have HSh2 := Lib.hid (HSh.out.snoc hb HB.out.size hX hlt)); (try clear c0 c1 c2); replace KQ := Lib.hid (blk_below KQ.out hb); replace KD := Lib.hid (blk_below KD.out hb); replace HS1 := Lib.hid (HS1.out.below hb); replace HSh := Lib.hid (HSh.out.below hb); replace HRw := Lib.hid (own_bel HRw.out hb); replace HB := Lib.hid (HB.out.trans (hb.mono HB.out.size)); clear hb hX hlt HSh))
          | (at_builtin; (refine wpList_append_own _ rfl _ _ 57 rfl w.heap.size 36 i1 _ 1 8 Try.underlying57 hi1 hy0 hy1 hy2 rfl (by decide) _ _ _ rfl (own_still HRw.out ((Fr.refl _ _).alloc _)) ⟨w4.heap.size, 0, none⟩ 1 1 [.pointer (some ⟨m, 0, none⟩)] rfl rfl (World.news_of_block (Hp.blk_new w4 _)) (by simp [Value.oneCell']) (by unfold maxLen; omega) (by omega) (by have := HB.out.size; simp; omega) ?_; intro v6 w6 own6 grow6 _; (have hF6 := fr_app grow6); replace HS1 := Lib.hid (sys_grow HS1.out HRw.out hF6 (ne_cel HS1.out HRw.out (by decide)) (by decide)); (have HSh3 := Lib.hid (HSh2.out.grow HRw.out hF6 (by decide))); replace KQ := Lib.hid (box_grow KQ.out HRw.out hF6 (by decide)); replace KD := Lib.hid (box_grow KD.out HRw.out hF6 (by decide)); replace HB := Lib.hid (Fr.toBelow HB.out HB.out.size hF6 (fun k hk => (HRw.out.lt k hk).1)); clear HRw; (have HRw := Lib.hid own6); clear own6 grow6 hF6)))
        go_roundw
        case rel =>
          refine ⟨k + 1, ls ++ [(m, mk, pu)], xs ++ [newSS P T R xs.length ref], by omega, by go_num, Lib.hid (by rw [List.length_append, HXl.out]; rfl), Lib.hid (one_snoc HI1.out), ?_, HS1, KQ, KD, ?_, HB⟩
          · rw [HXl.out]; exact HSh3
          · rw [List.map_append]
            show Hid (World.ownsRow _ _ _ _ _ _ (ptrs (ls.map (·.1) ++ [m])))
            rw [ptrs_snoc]
            exact HRw
        case measure => simp [intOf]; omega
      · obtain rfl : T = k := by omega
        obtain ⟨g1, cap1, rfl, -, -⟩ := ptr_cell HRw.out (by omega)
        have h1 : ¬ (T : Int) < (T : Int) := by omega
        clear hk4 hk c0 c1 c2
        (obtain ⟨c1, -⟩ := Hp.blk_cell KQ.out 1 rfl)
        go_wp2_with (fail)
        clear c1
        go_loopw [17] (fun v17 wr => ∃ (k : Nat) (s : AS) (xs : List SS) (g : Bool), k ≤ l.length ∧ k ≤ 60 ∧ v17 = .int .i64 k ∧ Hid (xs.length = T) ∧ Hid (OneI P T R pg b ref set s xs) ∧ Hid (s.log.length ≤ k) ∧ Hid (Shs w.heap.size wr ls xs) ∧ Hid (Sys w.heap.size wr a c s [(p, 1, g)]) ∧ Hid (wr.heap[qb]? = some (.cells #[.int .i64 P, .int .i64 T, .int .i64 R] 23 (0, 0))) ∧ Hid (wr.heap[db]? = some (.cells #[.int .i64 P, .int .i64 T, .int .i64 R, .int .i64 (Lay.bs P T R : Nat), .int .i64 (Lay.tb T R : Nat), .int .i64 (Lay.cl P T R : Nat)] 28 (0, 0))) ∧ Hid (wr.ownsRow w.heap.size 36 1 (.slice (some ⟨g1, 0, none⟩) T cap1) T (ptrs (ls.map (·.1)))) ∧ Hid (Below w.heap.size w wr)) (fun v17 _ => 64 - (intOf v17).toNat)
        case atStart => exact ⟨0, _, xs, _, Nat.zero_le _, Nat.zero_le _, rfl, HXl, HI1, Lib.hid (by rw [HLg.out]; exact Nat.le_refl _), HSh, HS1, KQ, KD, HRw, HB⟩
        case round =>
          clear HXl HI1 HSh HS1 KQ KD HRw HB HLg xs
          obtain ⟨k, s, xs, g, hk1, hk2, rfl, HXl, HI1, HLg, HSh, HS1, KQ, KD, HRw, HB⟩ := hrel
          by_cases hend : k < l.length ∧ k < 60
          · obtain ⟨hk3, hk4⟩ := hend
            have t1 : (k : Int) < (l.length : Int) := by omega
            have t2 : (k : Int) < 60 := by omega
            go_upto_region 25 with (first
              | (go_at_call 29; ((have hm := HS1.out.grant 0 (p := p) (who := 1) (g := g) rfl); (with_reducible refine hm.mono ?_); clear hm; rintro e w5 ⟨rfl, hD⟩; (have hsh := HSh.out.touched HS1.out hD.fr); (have hq := hD.fr.blk KQ.out (not_touch KQ.out (blk_ne KQ.out (sys_cel HS1.out) (by decide)) (by decide))); (have hd := hD.fr.blk KD.out (not_touch KD.out (blk_ne KD.out (sys_cel HS1.out) (by decide)) (by decide))); (have hrw := row_kept hD.fr HRw.out (ne_cel HS1.out HRw.out (by decide)) (by decide)); (have hss := hD.sys); replace HB := Lib.hid (HB.out.trans hD.bel); clear HSh KQ KD HRw HS1; (have HSh := Lib.hid hsh); (have KQ := Lib.hid hq); (have KD := Lib.hid hd); (have HRw := Lib.hid hrw); (have HS1 := Lib.hid hss); clear hsh hq hd hrw hss hD)))
            obtain ⟨ad, hA, rr⟩ := row_ints (Kd.C_below HR.out HB.out) (by omega)
            subst hA
            have r0 := rr k hk3
            clear rr
            obtain ⟨x0, hx0⟩ : ∃ x, x = l.getD k 0 := ⟨_, rfl⟩
            rw [← hx0] at r0
            clear hx0
            obtain ⟨kk, hkk, ekk⟩ := idx_of x0 hTb (by omega)
            have hkki : (kk : Int) < (T : Int) := by omega
            obtain ⟨m, mk, pu, x, hls, hxs, hX, hBm⟩ := HSh.out.get (i := kk) (by rw [HXl.out]; exact hkk)
            have hcp := ptr_at HRw.out hkk (by rw [List.getElem?_map, hls]; rfl)
            have HLS := Lib.hid hls
            have HXS := Lib.hid hxs
            have HX := Lib.hid hX
            have HBm := Lib.hid hBm
            have HKK := Lib.hid hkk
            have hok := HI1.out.oks kk x hxs
            clear hls hxs hX hBm
            by_cases h3 : x.at_ = 3
            · have hst := shade_step_over w5 m mk (some ⟨pu, 0, none⟩) x.lost (.pointer (some ⟨p, 0, none⟩)) (by rw [← h3]; exact HX.out.blk)
              clear h3 hok
              go_wp2_with (first
                | (go_at_call 17; ((with_reducible refine hst.mono ?_); clear hst; rintro e w6 ⟨rfl, hw⟩; obtain rfl := hw.symm)))
              go_roundw
              case rel => exact ⟨k + 1, s, xs, true, by omega, by omega, by go_num, HXl, HI1, Lib.hid (Nat.le_trans HLg.out (Nat.le_succ _)), HSh, HS1, KQ, KD, HRw, HB⟩
              case measure => simp [intOf]; omega
            · have hst := shade_step HS1.out 0 (p := p) (who := 1) rfl HX.out HBm.out hok.ok h3 (one_pl HRT.out HPG.out.1 HPG.out.2 HREF.out hkk hok) (fun _ _ => one_slot HRT.out HPG.out.1 HPG.out.2 HREF.out hkk hok) (by have := HLg.out; omega)
              clear h3 hok
              have HST := Lib.hid hst
              clear hst
              go_wp2_with (first
                | (go_at_call 17; ((with_reducible refine HST.out.mono ?_); clear HST; rintro e w6 ⟨rfl, hX2, hS2, hb, hF⟩; (have hsh := HSh.out.step HS1.out HLS.out hF hX2); (have hq := hF.blk KQ.out (box_free HX.out HS1.out KQ.out (by decide))); (have hd := hF.blk KD.out (box_free HX.out HS1.out KD.out (by decide))); (have hrw := row_kept2 hF HX.out HRw.out (ne_cel HS1.out HRw.out (by decide)) (by decide)); replace HB := Lib.hid (HB.out.trans hb); clear HSh KQ KD HRw HS1; (have HSh := Lib.hid hsh); (have KQ := Lib.hid hq); (have KD := Lib.hid hd); (have HRw := Lib.hid hrw); (have HS1 := Lib.hid hS2); clear hsh hq hd hrw hS2 hX2 hb hF)))
              go_roundw
              case rel => exact ⟨k + 1, _, _, false, by omega, by omega, by go_num, Lib.hid (by rw [List.length_set]; exact HXl.out), Lib.hid (one_step HRT.out HPG.out.1 HPG.out.2 HREF.out HI1.out HKK.out HXS.out (who := 1)), Lib.hid (Nat.le_trans (shStep_len _ _ _ _) (Nat.succ_le_succ HLg.out)), HSh, HS1, KQ, KD, HRw, HB⟩
              case measure => simp [intOf]; omega
          · have hw2 : (l.length ≤ k) ∨ (k < l.length ∧ 60 ≤ k) := by omega
            have HLg2 := Lib.hid (Nat.le_trans HLg.out hk2)
            clear hend hk1 HLg
            rcases hw2 with hw2 | ⟨hw2, hw3⟩
            all_goals
              (have t1 : ¬ (k : Int) < (l.length : Int) ∨ ((k : Int) < (l.length : Int) ∧ ¬ (k : Int) < 60) := by omega)
              go_wp2_with (fail)
              go_loopw [18, 19] (fun v18 v19 wr => ∃ (k : Nat) (s : AS) (xs : List SS) (g : Bool), k ≤ T ∧ v19 = .int .i64 k ∧ v18 = .int .i64 (cntT ((xs.map SS.fresh).take k) : Nat) ∧ Hid (xs.length = T) ∧ Hid (OneI P T R pg b ref set s xs) ∧ Hid (∀ (j : Nat) x, j < k → xs[j]? = some x → x.at_ = 3) ∧ Hid (s.log.length ≤ 60 + 6 * k) ∧ Hid (Shs w.heap.size wr ls xs) ∧ Hid (Sys w.heap.size wr a c s [(p, 1, g)]) ∧ Hid (wr.heap[qb]? = some (.cells #[.int .i64 P, .int .i64 T, .int .i64 R] 23 (0, 0))) ∧ Hid (wr.heap[db]? = some (.cells #[.int .i64 P, .int .i64 T, .int .i64 R, .int .i64 (Lay.bs P T R : Nat), .int .i64 (Lay.tb T R : Nat), .int .i64 (Lay.cl P T R : Nat)] 28 (0, 0))) ∧ Hid (wr.ownsRow w.heap.size 36 1 (.slice (some ⟨g1, 0, none⟩) T cap1) T (ptrs (ls.map (·.1)))) ∧ Hid (Below w.heap.size w wr)) (fun v18 v19 _ => 8 - (intOf v19).toNat)
              case atStart => exact ⟨0, s, xs, g, Nat.zero_le _, rfl, rfl, HXl, HI1, Lib.hid (fun j x hj => by omega), HLg2, HSh, HS1, KQ, KD, HRw, HB⟩
              case round =>
                clear HXl HI1 HLg2 HSh HS1 KQ KD HRw HB hw2 xs s g
                obtain ⟨k3, s, xs, g, hk3, rfl, rfl, HXl, HI1, HDn, HLg, HSh, HS1, KQ, KD, HRw, HB⟩ := hrel
                by_cases hkT : k3 < T
                · obtain ⟨m, mk, pu, x, hls, hxs, hX, hBm⟩ := HSh.out.get (i := k3) (by rw [HXl.out]; exact hkT)
                  have hcp := ptr_at HRw.out hkT (by rw [List.getElem?_map, hls]; rfl)
                  have HLS := Lib.hid hls
                  have HXS := Lib.hid hxs
                  have HX := Lib.hid hX
                  have HBm := Lib.hid hBm
                  have HKK := Lib.hid hkT
                  have hok := HI1.out.oks k3 x hxs
                  have hcl := cntT_le ((xs.map SS.fresh).take k3)
                  rw [List.length_take] at hcl
                  have HCN := Lib.hid (fresh_snoc (y := x) hxs)
                  obtain ⟨cn, hcn⟩ : ∃ cn, cn = cntT ((xs.map SS.fresh).take k3) := ⟨_, rfl⟩
                  rw [← hcn] at hcl HCN ⊢
                  have HCE := Lib.hid hcn
                  have hcn4 : cn ≤ 4 := by omega
                  have t2 : (k3 : Int) < (T : Int) := by omega
                  clear hls hxs hX hBm hcl hcn
                  by_cases h3 : x.at_ = 3
                  · have hst := finish_over HS1.out 0 (p := p) (who := 1) (g := g) rfl (m := m) (mk := mk) (pu := some ⟨pu, 0, none⟩) (lost := x.lost) (by rw [← h3]; exact HX.out.blk)
                    have HST := Lib.hid hst
                    have H3 := Lib.hid h3
                    clear hst h3 hok
                    go_upto_region 32 with (first
                      | (go_at_call 30; ((with_reducible refine HST.out.mono ?_); clear HST; rintro e w6 ⟨rfl, hD⟩; (have hfx := HX.out.free HS1.out); (have hX2 := HX.out.fr hD.fr hfx.1 hfx.2.1 hfx.2.2); (have hsh := HSh.out.touched HS1.out hD.fr); (have hq := hD.fr.blk KQ.out (not_touch KQ.out (blk_ne KQ.out (sys_cel HS1.out) (by decide)) (by decide))); (have hd := hD.fr.blk KD.out (not_touch KD.out (blk_ne KD.out (sys_cel HS1.out) (by decide)) (by decide))); (have hrw := row_kept hD.fr HRw.out (ne_cel HS1.out HRw.out (by decide)) (by decide)); (have hss := hD.sys); replace HB := Lib.hid (HB.out.trans hD.bel); clear HSh KQ KD HRw HS1; (have HSh := Lib.hid hsh); (have KQ := Lib.hid hq); (have KD := Lib.hid hd); (have HRw := Lib.hid hrw); (have HS1 := Lib.hid hss); clear hsh hq hd hrw hss hD; clear HX hfx; (have HX := Lib.hid hX2); clear hX2)))
                    clear hcp
                    have hcp := ptr_at HRw.out hkT (by rw [List.getElem?_map, HLS.out]; rfl)
                    have hfr := shade_fresh w6 m mk (some ⟨pu, 0, none⟩) _ _ HX.out.blk _ HX.out.mrk
                    have HDn2 : Hid (∀ (j : Nat) x, j < k3 + 1 → xs[j]? = some x → x.at_ = 3) := Lib.hid (done_snoc HDn.out HXS.out H3.out)
                    cases hfq : x.fresh
                    · rw [show (SS.ms x).fresh = false from hfq] at hfr
                      rw [hfq] at HCN
                      go_wp2_with (first
                        | (go_at_call 19; ((with_reducible refine hfr.mono ?_); clear hfr; rintro e w7 ⟨rfl, hw⟩; obtain rfl := hw.symm)))
                      go_roundw
                      case rel => exact ⟨k3 + 1, s, xs, true, by omega, by go_num, by rw [HCN.out]; rfl, HXl, HI1, HDn2, Lib.hid (by have := HLg.out; omega), HSh, HS1, KQ, KD, HRw, HB⟩
                      case measure => simp [intOf]; omega
                    · rw [show (SS.ms x).fresh = true from hfq] at hfr
                      rw [hfq] at HCN
                      go_wp2_with (first
                        | (go_at_call 19; ((with_reducible refine hfr.mono ?_); clear hfr; rintro e w7 ⟨rfl, hw⟩; obtain rfl := hw.symm)))
                      go_roundw
                      case rel => exact ⟨k3 + 1, s, xs, true, by omega, by go_num, by rw [HCN.out]; go_num, HXl, HI1, HDn2, Lib.hid (by have := HLg.out; omega), HSh, HS1, KQ, KD, HRw, HB⟩
                      case measure => simp [intOf]; omega
                  · obtain ⟨n, n1, n6, hn3, hnl⟩ := ends6 (onL P T R pg b k3) 1 s hok.ok h3
                    have HPLk := one_pl HRT.out HPG.out.1 HPG.out.2 HREF.out hkT hok
                    have hruns := fun j => one_run HRT.out HPG.out.1 HPG.out.2 HREF.out HI1.out hkT HXS.out (who := 1) j
                    have hslots : ∀ j, j < n → (shRun (onL P T R pg b k3) 1 s x j).2.at_ = 1 → (shRun (onL P T R pg b k3) 1 s x j).2.pat = 2 → layout_Plan_Slot.f x.P x.T x.R x.t (shRun (onL P T R pg b k3) 1 s x j).2.tl = some ((onL P T R pg b k3).qS (shRun (onL P T R pg b k3) 1 s x j).2.tl) := fun j _ _ _ => by
                      have hj := (hruns j).oks k3 _ (List.getElem?_set_self (List.getElem?_eq_some_iff.1 HXS.out).1)
                      have := one_slot HRT.out HPG.out.1 HPG.out.2 HREF.out hkT hj
                      obtain ⟨s1, s2, s3, s4, _⟩ := shRun_same (onL P T R pg b k3) 1 s x j
                      rw [s1, s2, s3, s4] at this
                      exact this
                    have hst := finish_n HS1.out 0 (p := p) (who := 1) (g := g) rfl HX.out HBm.out hok.ok HPLk n n1 n6 hn3 hnl hslots (by have := HLg.out; omega)
                    have HI2 := Lib.hid (hruns n)
                    have HLg2 := Lib.hid (shRun_len (onL P T R pg b k3) 1 s x n)
                    obtain ⟨y, hy⟩ : ∃ y, y = (shRun (onL P T R pg b k3) 1 s x n).2 := ⟨_, rfl⟩
                    obtain ⟨s2, hs2⟩ : ∃ s2, s2 = (shRun (onL P T R pg b k3) 1 s x n).1 := ⟨_, rfl⟩
                    rw [← hy, ← hs2] at hst
                    rw [← hy, ← hs2] at HI2
                    rw [← hs2] at HLg2
                    rw [← hy] at hn3
                    have HST := Lib.hid hst
                    have H3 := Lib.hid hn3
                    have hXS2 : (xs.set k3 y)[k3]? = some y := List.getElem?_set_self (List.getElem?_eq_some_iff.1 HXS.out).1
                    have HXS2 := Lib.hid hXS2
                    have HDn2 : Hid (∀ (j : Nat) x, j < k3 + 1 → (xs.set k3 y)[j]? = some x → x.at_ = 3) := Lib.hid (done_snoc (done_set HDn.out) hXS2 hn3)
                    have HCN2 : Hid (cntT (((xs.set k3 y).map SS.fresh).take (k3 + 1)) = cn + (if y.fresh = true then 1 else 0)) := Lib.hid (by
                      rw [fresh_snoc (y := y) hXS2, List.map_set, take_set_le (Nat.le_refl _), ← HCE.out])
                    have zn : ((n : Int) == 0) = false := by
                      rw [beq_eq_false_iff_ne]; omega
                    clear hst h3 hok hn3 hnl hslots hruns HPLk hy hs2 hXS2 HCN
                    go_upto_region 32 with (first
                      | (go_at_call 30; ((with_reducible refine HST.out.mono ?_); clear HST; rintro e w6 ⟨rfl, hX2, ⟨ps2, hi2, hl2, hS2⟩, hb, hF⟩; obtain rfl := one_ps hi2 hl2; (have hX2' := hX2); (have hsh := HSh.out.step HS1.out HLS.out hF hX2); (have hq := hF.blk KQ.out (box_free HX.out HS1.out KQ.out (by decide))); (have hd := hF.blk KD.out (box_free HX.out HS1.out KD.out (by decide))); (have hrw := row_kept2 hF HX.out HRw.out (ne_cel HS1.out HRw.out (by decide)) (by decide)); replace HB := Lib.hid (HB.out.trans hb); clear HSh KQ KD HRw HS1; (have HSh := Lib.hid hsh); (have KQ := Lib.hid hq); (have KD := Lib.hid hd); (have HRw := Lib.hid hrw); (have HS1 := Lib.hid hS2); clear hsh hq hd hrw hS2 hX2 hb hF; clear HX hi2 hl2; (have HX := Lib.hid hX2'); clear hX2')))
                    clear hcp
                    have hcp := ptr_at HRw.out hkT (by rw [List.getElem?_map, HLS.out]; rfl)
                    have hfr := shade_fresh w6 m mk (some ⟨pu, 0, none⟩) _ _ HX.out.blk _ HX.out.mrk
                    cases hfq : y.fresh
                    · rw [show (SS.ms y).fresh = false from hfq] at hfr
                      rw [hfq] at HCN2
                      go_wp2_with (first
                        | (go_at_call 19; ((with_reducible refine hfr.mono ?_); clear hfr; rintro e w7 ⟨rfl, hw⟩; obtain rfl := hw.symm)))
                      go_roundw
                      case rel => exact ⟨k3 + 1, s2, xs.set k3 y, false, by omega, by go_num, by rw [HCN2.out]; rfl, Lib.hid (by rw [List.length_set]; exact HXl.out), HI2, HDn2, Lib.hid (by have h1 := HLg.out; have h2 := HLg2.out; omega), HSh, HS1, KQ, KD, HRw, HB⟩
                      case measure => simp [intOf]; omega
                    · rw [show (SS.ms y).fresh = true from hfq] at hfr
                      rw [hfq] at HCN2
                      go_wp2_with (first
                        | (go_at_call 19; ((with_reducible refine hfr.mono ?_); clear hfr; rintro e w7 ⟨rfl, hw⟩; obtain rfl := hw.symm)))
                      go_roundw
                      case rel => exact ⟨k3 + 1, s2, xs.set k3 y, false, by omega, by go_num, by rw [HCN2.out]; go_num, Lib.hid (by rw [List.length_set]; exact HXl.out), HI2, HDn2, Lib.hid (by have h1 := HLg.out; have h2 := HLg2.out; omega), HSh, HS1, KQ, KD, HRw, HB⟩
                      case measure => simp [intOf]; omega
                · have hkT2 : T = k3 := by omega
                  subst hkT2
                  have hdone := one_done HI1.out (by rw [HXl.out]; exact hTb) (fun j x hx => HDn.out j x (by
                    have := (List.getElem?_eq_some_iff.1 hx).1
                    rw [HXl.out] at this; exact this) hx)
                  rw [List.take_of_length_le (by rw [List.length_map, HXl.out]; exact Nat.le_refl _), hdone.1]
                  obtain ⟨fv, hfv⟩ : ∃ fv : Nat, fv = (if set = true then 0 else 1) := ⟨_, rfl⟩
                  rw [← hfv]
                  have HFV := Lib.hid hfv
                  clear hfv
                  have HMk := Lib.hid hdone.2
                  have HLen := Lib.hid HI1.out.len
                  have t2 : ¬ (T : Int) < (T : Int) := by omega
                  clear hkT hk3 hdone HI1 HDn HSh HRw HLg HXl
                  have hcl0 := Lay.cl_le HRT.out
                  have hcb0 : Lay.cl P T R = Lay.bs P T R + 64 * P := rfl
                  (obtain ⟨e0, -⟩ := Hp.blk_cell KD.out 0 rfl); (obtain ⟨e1, -⟩ := Hp.blk_cell KD.out 1 rfl); (obtain ⟨e2, -⟩ := Hp.blk_cell KD.out 2 rfl); (obtain ⟨e3, -⟩ := Hp.blk_cell KD.out 3 rfl); (obtain ⟨e4, -⟩ := Hp.blk_cell KD.out 4 rfl); (obtain ⟨e5, -⟩ := Hp.blk_cell KD.out 5 rfl)
                  go_wp2_with (fail)
                  clear e0 e1 e2 e3 e4 e5
                  go_loopw [20] (fun v20 wr => ∃ (n : Nat) (g : Bool), Lay.bs P T R ≤ n ∧ n ≤ Lay.cl P T R ∧ v20 = .int .i64 n ∧ Hid (Sys w.heap.size wr a c s [(p, 1, g)]) ∧ Hid (wr.heap[qb]? = some (.cells #[.int .i64 P, .int .i64 T, .int .i64 R] 23 (0, 0))) ∧ Hid (wr.heap[db]? = some (.cells #[.int .i64 P, .int .i64 T, .int .i64 R, .int .i64 (Lay.bs P T R : Nat), .int .i64 (Lay.tb T R : Nat), .int .i64 (Lay.cl P T R : Nat)] 28 (0, 0))) ∧ Hid (Below w.heap.size w wr)) (fun v20 _ => 3000 - (intOf v20).toNat)
                  case atStart => exact ⟨Lay.bs P T R, g, Nat.le_refl _, by omega, rfl, HS1, KQ, KD, HB⟩
                  case round =>
                    clear HS1 KQ KD HB g
                    obtain ⟨n, g, hn1, hn2, rfl, HS1, KQ, KD, HB⟩ := hrel
                    (obtain ⟨c0, -⟩ := Hp.blk_cell KQ.out 0 rfl)
                    (obtain ⟨c1, -⟩ := Hp.blk_cell KQ.out 1 rfl)
                    (obtain ⟨c2, -⟩ := Hp.blk_cell KQ.out 2 rfl)
                    obtain ⟨e3, -⟩ := Hp.blk_cell KD.out 5 rfl
                    by_cases hn : n < Lay.cl P T R
                    · obtain ⟨pg', b', q, hm1, hm2, hm3, hm4, hm5⟩ := marked_at HRT.out HPG.out.1 HPG.out.2 ⟨hn1, hn⟩ HLen.out HMk.out
                      have HM1 := Lib.hid hm1
                      have HM2 := Lib.hid hm2
                      have HM3 := Lib.hid hm3
                      have HM4 : Hid (s.has (q : Int) = true) := Lib.hid (decide_eq_true ⟨by omega, by omega⟩)
                      have t3 : (n : Int) < (Lay.cl P T R : Int) := by omega
                      have hn3 : n ≤ 2400 := by omega
                      clear hm1 hm2 hm3 hm4
                      by_cases hN : n = Lay.bs P T R + 64 * pg + b
                      · rw [decide_eq_true hN] at hm5
                        have HM5 := Lib.hid hm5
                        have HN : ((n : Int) == ref) = true := by rw [HREF.out, beq_iff_eq]; omega
                        clear hm5 hN
                        go_wp2_with (first
                          | (go_at_call 11; ((with_reducible refine (windrowlaw08_plan.calls P T R P T R _ rfl).mono ?_); rintro e w8 ⟨rfl, hb⟩; clear c0 c1 c2 e3; replace KQ := Lib.hid (blk_below KQ.out hb); replace KD := Lib.hid (blk_below KD.out hb); replace HS1 := Lib.hid (HS1.out.below hb); replace HB := Lib.hid (HB.out.trans (hb.mono HB.out.size)); (obtain ⟨c0, -⟩ := Hp.blk_cell KQ.out 0 rfl); (obtain ⟨c1, -⟩ := Hp.blk_cell KQ.out 1 rfl); (obtain ⟨c2, -⟩ := Hp.blk_cell KQ.out 2 rfl); (obtain ⟨e3, -⟩ := Hp.blk_cell KD.out 5 rfl); clear hb))
                          | (go_at_call 22; ((have hm := marked_sys _ HS1.out P T R n HM1.out pg' b' q HM2.out (Int.natCast_nonneg _) HM3.out HM4.out); rw [Int.toNat_natCast, HM5.out] at hm; (with_reducible refine hm.mono ?_); clear hm; rintro e w9 ⟨rfl, hb⟩; clear c0 c1 c2 e3; replace KQ := Lib.hid (blk_below KQ.out hb); replace KD := Lib.hid (blk_below KD.out hb); replace HS1 := Lib.hid (HS1.out.below hb); replace HB := Lib.hid (HB.out.trans (hb.mono HB.out.size)); (obtain ⟨c0, -⟩ := Hp.blk_cell KQ.out 0 rfl); (obtain ⟨c1, -⟩ := Hp.blk_cell KQ.out 1 rfl); (obtain ⟨c2, -⟩ := Hp.blk_cell KQ.out 2 rfl); (obtain ⟨e3, -⟩ := Hp.blk_cell KD.out 5 rfl); clear hb)))
                        go_roundw
                        case rel => exact ⟨n + 1, g, by omega, by omega, by go_num, HS1, KQ, KD, HB⟩
                        case measure => simp [intOf]; omega
                      · rw [decide_eq_false hN] at hm5
                        have HM5 := Lib.hid hm5
                        have HN : ((n : Int) == ref) = false := by rw [HREF.out, beq_eq_false_iff_ne]; omega
                        clear hm5 hN
                        go_wp2_with (first
                          | (go_at_call 11; ((with_reducible refine (windrowlaw08_plan.calls P T R P T R _ rfl).mono ?_); rintro e w8 ⟨rfl, hb⟩; clear c0 c1 c2 e3; replace KQ := Lib.hid (blk_below KQ.out hb); replace KD := Lib.hid (blk_below KD.out hb); replace HS1 := Lib.hid (HS1.out.below hb); replace HB := Lib.hid (HB.out.trans (hb.mono HB.out.size)); (obtain ⟨c0, -⟩ := Hp.blk_cell KQ.out 0 rfl); (obtain ⟨c1, -⟩ := Hp.blk_cell KQ.out 1 rfl); (obtain ⟨c2, -⟩ := Hp.blk_cell KQ.out 2 rfl); (obtain ⟨e3, -⟩ := Hp.blk_cell KD.out 5 rfl); clear hb))
                          | (go_at_call 22; ((have hm := marked_sys _ HS1.out P T R n HM1.out pg' b' q HM2.out (Int.natCast_nonneg _) HM3.out HM4.out); rw [Int.toNat_natCast, HM5.out] at hm; (with_reducible refine hm.mono ?_); clear hm; rintro e w9 ⟨rfl, hb⟩; clear c0 c1 c2 e3; replace KQ := Lib.hid (blk_below KQ.out hb); replace KD := Lib.hid (blk_below KD.out hb); replace HS1 := Lib.hid (HS1.out.below hb); replace HB := Lib.hid (HB.out.trans (hb.mono HB.out.size)); (obtain ⟨c0, -⟩ := Hp.blk_cell KQ.out 0 rfl); (obtain ⟨c1, -⟩ := Hp.blk_cell KQ.out 1 rfl); (obtain ⟨c2, -⟩ := Hp.blk_cell KQ.out 2 rfl); (obtain ⟨e3, -⟩ := Hp.blk_cell KD.out 5 rfl); clear hb)))
                        go_roundw
                        case rel => exact ⟨n + 1, g, by omega, by omega, by go_num, HS1, KQ, KD, HB⟩
                        case measure => simp [intOf]; omega
                    · have t3 : ¬ (n : Int) < (Lay.cl P T R : Int) := by omega
                      cases set
                      · have hfv : ((fv : Nat) : Int) = 1 := by have := HFV.out; simp at this; omega
                        rw [hfv]
                        go_wp2_with (fail)
                        go_ret
                        exact ⟨rfl, HB.out⟩
                      · have hfv : ((fv : Nat) : Int) = 0 := by have := HFV.out; simp at this; omega
                        rw [hfv]
                        go_wp2_with (fail)
                        go_ret
                        exact ⟨rfl, HB.out⟩

abbrev d46 : Kd (Int × Int × Int × Int × List Int × Bool) := Kd.pair (Kd.int .i64) (Kd.pair (Kd.int .i64) (Kd.pair (Kd.int .i64) (Kd.pair (Kd.int .u64) (Kd.pair (Kd.slice 3 (Kd.int .i64)) Kd.bool))))
theorem op46 : Rk.Opens d46 [.int .i64, .int .i64, .int .i64, .int .u64, .slice [.int .i64], .bool] (fun x => (Lit.int .i64 x.1).wf = true ∧ (Lit.int .i64 x.2.1).wf = true ∧ (Lit.int .i64 x.2.2.1).wf = true ∧ (Lit.int .u64 x.2.2.2.1).wf = true ∧ (x.2.2.2.2.1.length ≤ maxLen ∧ ∀ y ∈ x.2.2.2.2.1, (Lit.int .i64 y).wf = true) ∧ True) :=
  Rk.opens_pair (Rk.opens_int .i64) (Rk.opens_pair (Rk.opens_int .i64) (Rk.opens_pair (Rk.opens_int .i64) (Rk.opens_pair (Rk.opens_int .u64) (Rk.opens_pair (Rk.opens_slice 3 (Rk.opens_int .i64)) Rk.opens_bool))))
theorem one_row (cs : Array Value) (b : Int × Int × Int × Int × List Int × Bool) (w : World) (h : d46.K w b cs.toList) (hx : (Lit.int .u64 b.2.2.2.1).wf = true) :
    Calls Try.prog 4 #[.agg cs] w fun e w' => e = .returned (.bool true) ∧ Below w.heap.size w w' := by
  obtain ⟨x, y, z, r, l, s⟩ := b
  obtain ⟨c1, c2, e1, e2, d1, d2, rfl, e3, f1, f2, rfl, e4, g1, g2, rfl, e5, k1, k2, rfl, ⟨A, cp, rfl, hle, hC⟩, e6⟩ := h
  have e2' : c1 = [.int .i64 x] := e2
  have e3' : d1 = [.int .i64 y] := e3
  have e4' : f1 = [.int .i64 z] := e4
  have e5' : g1 = [.int .u64 r] := e5
  have e6' : k2 = [.bool s] := e6
  subst e2' e3' e4' e5' e6'
  have : cs = #[.int .i64 x, .int .i64 y, .int .i64 z, .int .u64 r, .slice A l.length cp, .bool s] := by
    apply Array.toList_inj.1
    rw [e1]
    rfl
  subst this
  have hw : 0 ≤ r ∧ r < 18446744073709551616 := by
    have h' : IntKind.u64.min ≤ r ∧ r ≤ IntKind.u64.max := by simpa [Lit.wf] using hx
    exact ⟨h'.1, by have := h'.2; have e : IntKind.u64.max = 18446744073709551615 := rfl; omega⟩
  exact one_law x y z r hw A cp l s w hC
end Go.Proofs.Ytcnledehnefldaa.Ar

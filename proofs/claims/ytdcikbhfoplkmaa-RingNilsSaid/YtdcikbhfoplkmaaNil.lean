/- RingNils, walked. -/
import Derived.Test.YtdcikbhfoplkmaaRp
import Derived.Deep.Cut
namespace Go.Proofs.Ytdcikbhfoplkmaa.Ar
open Go Go.RowKit Go.Proofs.Ytdcikbhfoplkmaa.Hp Go.Proofs.Ytdcikbhfoplkmaa.PH
set_option linter.unusedVariables false
set_option linter.unusedSimpArgs false

set_option maxHeartbeats 4000000 in
set_option maxRecDepth 100000 in
theorem nils_v (P T R t v : Int) (w : World) (h : plOk P T R ∧ 0 ≤ t ∧ t < T) (hv : v ≠ 0) :
    Calls Try.prog 5 #[.agg #[.int .i64 P, .int .i64 T, .int .i64 R], .int .i64 t, .int .u64 v] w fun e w' => e = .returned (.bool true) ∧ Below w.heap.size w w' := by
  have HRt : Hid (ring_right.f P T R t = some true) := Lib.hid (by rw [rp_ring, decide_eq_true h])
  have HR6 : Hid (windrowref06_Right.f P T R = some true) := Lib.hid (by rw [rp_right6, decide_eq_true h.1])
  have hh := rp_head h
  have HHd := Lib.hid hh.1
  have HNo : Hid (AS.has ⟨List.replicate 1 0, [], false, 0, 0⟩ (16 + t * (5 + R) + 3) = false) := Lib.hid (decide_eq_false (fun z => by have := hh.2; have := z.2; simp at this; omega))
  have h0 := h.2.1
  have h1 := h.2.2
  have HV := Lib.hid hv
  have hv2 : (v == 0) = false := by simp [hv]
  have hv3 : (v != 0) = true := by simp [hv]
  clear hv
  clear h hh
  have KB := Lib.hid (Hp.blk_new w (.cells #[.int .i64 P, .int .i64 T, .int .i64 R] 23))
  have HB := Lib.hid ((Below.refl w.heap.size w).alloc (Nat.le_refl _) (.cells #[.int .i64 P, .int .i64 T, .int .i64 R] 23))
  obtain ⟨c0, -⟩ := Hp.blk_cell KB.out 0 rfl
  obtain ⟨c1, -⟩ := Hp.blk_cell KB.out 1 rfl
  obtain ⟨c2, -⟩ := Hp.blk_cell KB.out 2 rfl
  go_enter Try.func5, Try.ntmps5
  go_upto_region 8 with (first
      | (go_at_call 21; (with_reducible refine (windrowref06_Right.calls P T R _ _ HR6.out).mono ?_; rintro e w9 ⟨rfl, hb⟩; clear c0 c1 c2; replace KB := Lib.hid (blk_below KB.out hb); replace HB := Lib.hid (HB.out.trans (hb.mono HB.out.size)); (obtain ⟨c0, -⟩ := Hp.blk_cell KB.out 0 rfl); (obtain ⟨c1, -⟩ := Hp.blk_cell KB.out 1 rfl); (obtain ⟨c2, -⟩ := Hp.blk_cell KB.out 2 rfl); clear hb))
      | (go_at_call 13; (with_reducible refine (windrowlaw07_plan.calls P T R P T R _ rfl).mono ?_; rintro e w9 ⟨rfl, hb⟩; (try replace HS := Lib.hid (HS.out.below hb)); clear c0 c1 c2; replace KB := Lib.hid (blk_below KB.out hb); replace HB := Lib.hid (HB.out.trans (hb.mono HB.out.size)); (obtain ⟨c0, -⟩ := Hp.blk_cell KB.out 0 rfl); (obtain ⟨c1, -⟩ := Hp.blk_cell KB.out 1 rfl); (obtain ⟨c2, -⟩ := Hp.blk_cell KB.out 2 rfl); clear hb))
      | (go_at_call 12; (with_reducible refine (newPush_yes _ P T R t v HRt.out HV.out).mono ?_; rintro e w9 ⟨m1, rfl, -, -, hb⟩; clear c0 c1 c2; replace KB := Lib.hid (blk_below KB.out hb); replace HB := Lib.hid (HB.out.trans (hb.mono HB.out.size)); (obtain ⟨c0, -⟩ := Hp.blk_cell KB.out 0 rfl); (obtain ⟨c1, -⟩ := Hp.blk_cell KB.out 1 rfl); (obtain ⟨c2, -⟩ := Hp.blk_cell KB.out 2 rfl); clear hb))
      | (go_at_call 22; (with_reducible refine (newPop_yes _ P T R t HRt.out).mono ?_; rintro e w9 ⟨m2, rfl, -, -, hb⟩; clear c0 c1 c2; replace KB := Lib.hid (blk_below KB.out hb); replace HB := Lib.hid (HB.out.trans (hb.mono HB.out.size)); (obtain ⟨c0, -⟩ := Hp.blk_cell KB.out 0 rfl); (obtain ⟨c1, -⟩ := Hp.blk_cell KB.out 1 rfl); (obtain ⟨c2, -⟩ := Hp.blk_cell KB.out 2 rfl); clear hb))
      | (go_at_call 23; ((have hm := sys_new w.heap.size _ 1 false (by omega) (by omega) HB.out.size); rw [show ((1 : Nat) : Int) = 1 from rfl] at hm; with_reducible refine hm.mono ?_; clear hm; rintro e w9 ⟨a, c, rfl, hS, hb, -, -⟩; (have HS := Lib.hid hS); clear c0 c1 c2; replace KB := Lib.hid (blk_below KB.out hb); replace HB := Lib.hid (HB.out.trans (hb.mono HB.out.size)); (obtain ⟨c0, -⟩ := Hp.blk_cell KB.out 0 rfl); (obtain ⟨c1, -⟩ := Hp.blk_cell KB.out 1 rfl); (obtain ⟨c2, -⟩ := Hp.blk_cell KB.out 2 rfl); clear hb hS))
      | (go_at_call 20; (with_reducible refine (waiting_addr HS.out P T R t _ HRt.out HHd.out HNo.out).mono ?_; rintro e w9 ⟨rfl, hb⟩; clear c0 c1 c2; replace KB := Lib.hid (blk_below KB.out hb); replace HB := Lib.hid (HB.out.trans (hb.mono HB.out.size)); (obtain ⟨c0, -⟩ := Hp.blk_cell KB.out 0 rfl); (obtain ⟨c1, -⟩ := Hp.blk_cell KB.out 1 rfl); (obtain ⟨c2, -⟩ := Hp.blk_cell KB.out 2 rfl); clear hb))
      | (go_at_call 8; (with_reducible refine (ringed _).mono ?_; rintro e w9 ⟨rfl, hb⟩; clear c0 c1 c2; replace KB := Lib.hid (blk_below KB.out hb); replace HB := Lib.hid (HB.out.trans (hb.mono HB.out.size)); (obtain ⟨c0, -⟩ := Hp.blk_cell KB.out 0 rfl); (obtain ⟨c1, -⟩ := Hp.blk_cell KB.out 1 rfl); (obtain ⟨c2, -⟩ := Hp.blk_cell KB.out 2 rfl); clear hb))
      | (go_at_call 24; (with_reducible refine (push_step_nil _ _).mono ?_; rintro e w9 ⟨rfl, hw⟩; obtain rfl := hw.symm))
      | (go_at_call 25; (with_reducible refine (push_over_nil _).mono ?_; rintro e w9 ⟨rfl, hw⟩; obtain rfl := hw.symm))
      | (go_at_call 17; (with_reducible refine (push_full_nil _).mono ?_; rintro e w9 ⟨rfl, hw⟩; obtain rfl := hw.symm))
      | (go_at_call 26; (with_reducible refine (pop_step_nil _ _).mono ?_; rintro e w9 ⟨rfl, hw⟩; obtain rfl := hw.symm))
      | (go_at_call 27; (with_reducible refine (pop_over_nil _).mono ?_; rintro e w9 ⟨rfl, hw⟩; obtain rfl := hw.symm))
      | (go_at_call 28; (with_reducible refine (pop_empty_nil _).mono ?_; rintro e w9 ⟨rfl, hw⟩; obtain rfl := hw.symm))
      | (go_at_call 29; (with_reducible refine (pop_value_nil _).mono ?_; rintro e w9 ⟨rfl, hw⟩; obtain rfl := hw.symm)))
  try simp only [List.append_eq, List.append, List.cons_append, List.nil_append]
  go_wp2_with (first
      | (go_at_call 21; (with_reducible refine (windrowref06_Right.calls P T R _ _ HR6.out).mono ?_; rintro e w9 ⟨rfl, hb⟩; clear c0 c1 c2; replace KB := Lib.hid (blk_below KB.out hb); replace HB := Lib.hid (HB.out.trans (hb.mono HB.out.size)); (obtain ⟨c0, -⟩ := Hp.blk_cell KB.out 0 rfl); (obtain ⟨c1, -⟩ := Hp.blk_cell KB.out 1 rfl); (obtain ⟨c2, -⟩ := Hp.blk_cell KB.out 2 rfl); clear hb))
      | (go_at_call 13; (with_reducible refine (windrowlaw07_plan.calls P T R P T R _ rfl).mono ?_; rintro e w9 ⟨rfl, hb⟩; (try replace HS := Lib.hid (HS.out.below hb)); clear c0 c1 c2; replace KB := Lib.hid (blk_below KB.out hb); replace HB := Lib.hid (HB.out.trans (hb.mono HB.out.size)); (obtain ⟨c0, -⟩ := Hp.blk_cell KB.out 0 rfl); (obtain ⟨c1, -⟩ := Hp.blk_cell KB.out 1 rfl); (obtain ⟨c2, -⟩ := Hp.blk_cell KB.out 2 rfl); clear hb))
      | (go_at_call 12; (with_reducible refine (newPush_yes _ P T R t v HRt.out HV.out).mono ?_; rintro e w9 ⟨m1, rfl, -, -, hb⟩; clear c0 c1 c2; replace KB := Lib.hid (blk_below KB.out hb); replace HB := Lib.hid (HB.out.trans (hb.mono HB.out.size)); (obtain ⟨c0, -⟩ := Hp.blk_cell KB.out 0 rfl); (obtain ⟨c1, -⟩ := Hp.blk_cell KB.out 1 rfl); (obtain ⟨c2, -⟩ := Hp.blk_cell KB.out 2 rfl); clear hb))
      | (go_at_call 22; (with_reducible refine (newPop_yes _ P T R t HRt.out).mono ?_; rintro e w9 ⟨m2, rfl, -, -, hb⟩; clear c0 c1 c2; replace KB := Lib.hid (blk_below KB.out hb); replace HB := Lib.hid (HB.out.trans (hb.mono HB.out.size)); (obtain ⟨c0, -⟩ := Hp.blk_cell KB.out 0 rfl); (obtain ⟨c1, -⟩ := Hp.blk_cell KB.out 1 rfl); (obtain ⟨c2, -⟩ := Hp.blk_cell KB.out 2 rfl); clear hb))
      | (go_at_call 23; ((have hm := sys_new w.heap.size _ 1 false (by omega) (by omega) HB.out.size); rw [show ((1 : Nat) : Int) = 1 from rfl] at hm; with_reducible refine hm.mono ?_; clear hm; rintro e w9 ⟨a, c, rfl, hS, hb, -, -⟩; (have HS := Lib.hid hS); clear c0 c1 c2; replace KB := Lib.hid (blk_below KB.out hb); replace HB := Lib.hid (HB.out.trans (hb.mono HB.out.size)); (obtain ⟨c0, -⟩ := Hp.blk_cell KB.out 0 rfl); (obtain ⟨c1, -⟩ := Hp.blk_cell KB.out 1 rfl); (obtain ⟨c2, -⟩ := Hp.blk_cell KB.out 2 rfl); clear hb hS))
      | (go_at_call 20; (with_reducible refine (waiting_addr HS.out P T R t _ HRt.out HHd.out HNo.out).mono ?_; rintro e w9 ⟨rfl, hb⟩; clear c0 c1 c2; replace KB := Lib.hid (blk_below KB.out hb); replace HB := Lib.hid (HB.out.trans (hb.mono HB.out.size)); (obtain ⟨c0, -⟩ := Hp.blk_cell KB.out 0 rfl); (obtain ⟨c1, -⟩ := Hp.blk_cell KB.out 1 rfl); (obtain ⟨c2, -⟩ := Hp.blk_cell KB.out 2 rfl); clear hb))
      | (go_at_call 8; (with_reducible refine (ringed _).mono ?_; rintro e w9 ⟨rfl, hb⟩; clear c0 c1 c2; replace KB := Lib.hid (blk_below KB.out hb); replace HB := Lib.hid (HB.out.trans (hb.mono HB.out.size)); (obtain ⟨c0, -⟩ := Hp.blk_cell KB.out 0 rfl); (obtain ⟨c1, -⟩ := Hp.blk_cell KB.out 1 rfl); (obtain ⟨c2, -⟩ := Hp.blk_cell KB.out 2 rfl); clear hb))
      | (go_at_call 24; (with_reducible refine (push_step_nil _ _).mono ?_; rintro e w9 ⟨rfl, hw⟩; obtain rfl := hw.symm))
      | (go_at_call 25; (with_reducible refine (push_over_nil _).mono ?_; rintro e w9 ⟨rfl, hw⟩; obtain rfl := hw.symm))
      | (go_at_call 17; (with_reducible refine (push_full_nil _).mono ?_; rintro e w9 ⟨rfl, hw⟩; obtain rfl := hw.symm))
      | (go_at_call 26; (with_reducible refine (pop_step_nil _ _).mono ?_; rintro e w9 ⟨rfl, hw⟩; obtain rfl := hw.symm))
      | (go_at_call 27; (with_reducible refine (pop_over_nil _).mono ?_; rintro e w9 ⟨rfl, hw⟩; obtain rfl := hw.symm))
      | (go_at_call 28; (with_reducible refine (pop_empty_nil _).mono ?_; rintro e w9 ⟨rfl, hw⟩; obtain rfl := hw.symm))
      | (go_at_call 29; (with_reducible refine (pop_value_nil _).mono ?_; rintro e w9 ⟨rfl, hw⟩; obtain rfl := hw.symm)))
  go_ret
  exact ⟨rfl, HB.out⟩

set_option maxHeartbeats 4000000 in
set_option maxRecDepth 100000 in
theorem nils_0 (P T R t v : Int) (w : World) (h : plOk P T R ∧ 0 ≤ t ∧ t < T) (hv : v = 0) :
    Calls Try.prog 5 #[.agg #[.int .i64 P, .int .i64 T, .int .i64 R], .int .i64 t, .int .u64 v] w fun e w' => e = .returned (.bool true) ∧ Below w.heap.size w w' := by
  have HRt : Hid (ring_right.f P T R t = some true) := Lib.hid (by rw [rp_ring, decide_eq_true h])
  have HR6 : Hid (windrowref06_Right.f P T R = some true) := Lib.hid (by rw [rp_right6, decide_eq_true h.1])
  have hh := rp_head h
  have HHd := Lib.hid hh.1
  have HNo : Hid (AS.has ⟨List.replicate 1 0, [], false, 0, 0⟩ (16 + t * (5 + R) + 3) = false) := Lib.hid (decide_eq_false (fun z => by have := hh.2; have := z.2; simp at this; omega))
  have h0 := h.2.1
  have h1 := h.2.2
  subst hv
  clear h hh
  have KB := Lib.hid (Hp.blk_new w (.cells #[.int .i64 P, .int .i64 T, .int .i64 R] 23))
  have HB := Lib.hid ((Below.refl w.heap.size w).alloc (Nat.le_refl _) (.cells #[.int .i64 P, .int .i64 T, .int .i64 R] 23))
  obtain ⟨c0, -⟩ := Hp.blk_cell KB.out 0 rfl
  obtain ⟨c1, -⟩ := Hp.blk_cell KB.out 1 rfl
  obtain ⟨c2, -⟩ := Hp.blk_cell KB.out 2 rfl
  go_enter Try.func5, Try.ntmps5
  go_upto_region 8 with (first
      | (go_at_call 21; (with_reducible refine (windrowref06_Right.calls P T R _ _ HR6.out).mono ?_; rintro e w9 ⟨rfl, hb⟩; clear c0 c1 c2; replace KB := Lib.hid (blk_below KB.out hb); replace HB := Lib.hid (HB.out.trans (hb.mono HB.out.size)); (obtain ⟨c0, -⟩ := Hp.blk_cell KB.out 0 rfl); (obtain ⟨c1, -⟩ := Hp.blk_cell KB.out 1 rfl); (obtain ⟨c2, -⟩ := Hp.blk_cell KB.out 2 rfl); clear hb))
      | (go_at_call 13; (with_reducible refine (windrowlaw07_plan.calls P T R P T R _ rfl).mono ?_; rintro e w9 ⟨rfl, hb⟩; (try replace HS := Lib.hid (HS.out.below hb)); clear c0 c1 c2; replace KB := Lib.hid (blk_below KB.out hb); replace HB := Lib.hid (HB.out.trans (hb.mono HB.out.size)); (obtain ⟨c0, -⟩ := Hp.blk_cell KB.out 0 rfl); (obtain ⟨c1, -⟩ := Hp.blk_cell KB.out 1 rfl); (obtain ⟨c2, -⟩ := Hp.blk_cell KB.out 2 rfl); clear hb))
      | (go_at_call 12; (with_reducible refine (newPush_no _ P T R t 0 _ HRt.out (.inr rfl)).mono ?_; rintro e w9 ⟨rfl, hb⟩; clear c0 c1 c2; replace KB := Lib.hid (blk_below KB.out hb); replace HB := Lib.hid (HB.out.trans (hb.mono HB.out.size)); (obtain ⟨c0, -⟩ := Hp.blk_cell KB.out 0 rfl); (obtain ⟨c1, -⟩ := Hp.blk_cell KB.out 1 rfl); (obtain ⟨c2, -⟩ := Hp.blk_cell KB.out 2 rfl); clear hb))
      | (go_at_call 22; (with_reducible refine (newPop_yes _ P T R t HRt.out).mono ?_; rintro e w9 ⟨m2, rfl, -, -, hb⟩; clear c0 c1 c2; replace KB := Lib.hid (blk_below KB.out hb); replace HB := Lib.hid (HB.out.trans (hb.mono HB.out.size)); (obtain ⟨c0, -⟩ := Hp.blk_cell KB.out 0 rfl); (obtain ⟨c1, -⟩ := Hp.blk_cell KB.out 1 rfl); (obtain ⟨c2, -⟩ := Hp.blk_cell KB.out 2 rfl); clear hb))
      | (go_at_call 23; ((have hm := sys_new w.heap.size _ 1 false (by omega) (by omega) HB.out.size); rw [show ((1 : Nat) : Int) = 1 from rfl] at hm; with_reducible refine hm.mono ?_; clear hm; rintro e w9 ⟨a, c, rfl, hS, hb, -, -⟩; (have HS := Lib.hid hS); clear c0 c1 c2; replace KB := Lib.hid (blk_below KB.out hb); replace HB := Lib.hid (HB.out.trans (hb.mono HB.out.size)); (obtain ⟨c0, -⟩ := Hp.blk_cell KB.out 0 rfl); (obtain ⟨c1, -⟩ := Hp.blk_cell KB.out 1 rfl); (obtain ⟨c2, -⟩ := Hp.blk_cell KB.out 2 rfl); clear hb hS))
      | (go_at_call 20; (with_reducible refine (waiting_addr HS.out P T R t _ HRt.out HHd.out HNo.out).mono ?_; rintro e w9 ⟨rfl, hb⟩; clear c0 c1 c2; replace KB := Lib.hid (blk_below KB.out hb); replace HB := Lib.hid (HB.out.trans (hb.mono HB.out.size)); (obtain ⟨c0, -⟩ := Hp.blk_cell KB.out 0 rfl); (obtain ⟨c1, -⟩ := Hp.blk_cell KB.out 1 rfl); (obtain ⟨c2, -⟩ := Hp.blk_cell KB.out 2 rfl); clear hb))
      | (go_at_call 8; (with_reducible refine (ringed _).mono ?_; rintro e w9 ⟨rfl, hb⟩; clear c0 c1 c2; replace KB := Lib.hid (blk_below KB.out hb); replace HB := Lib.hid (HB.out.trans (hb.mono HB.out.size)); (obtain ⟨c0, -⟩ := Hp.blk_cell KB.out 0 rfl); (obtain ⟨c1, -⟩ := Hp.blk_cell KB.out 1 rfl); (obtain ⟨c2, -⟩ := Hp.blk_cell KB.out 2 rfl); clear hb))
      | (go_at_call 24; (with_reducible refine (push_step_nil _ _).mono ?_; rintro e w9 ⟨rfl, hw⟩; obtain rfl := hw.symm))
      | (go_at_call 25; (with_reducible refine (push_over_nil _).mono ?_; rintro e w9 ⟨rfl, hw⟩; obtain rfl := hw.symm))
      | (go_at_call 17; (with_reducible refine (push_full_nil _).mono ?_; rintro e w9 ⟨rfl, hw⟩; obtain rfl := hw.symm))
      | (go_at_call 26; (with_reducible refine (pop_step_nil _ _).mono ?_; rintro e w9 ⟨rfl, hw⟩; obtain rfl := hw.symm))
      | (go_at_call 27; (with_reducible refine (pop_over_nil _).mono ?_; rintro e w9 ⟨rfl, hw⟩; obtain rfl := hw.symm))
      | (go_at_call 28; (with_reducible refine (pop_empty_nil _).mono ?_; rintro e w9 ⟨rfl, hw⟩; obtain rfl := hw.symm))
      | (go_at_call 29; (with_reducible refine (pop_value_nil _).mono ?_; rintro e w9 ⟨rfl, hw⟩; obtain rfl := hw.symm)))
  try simp only [List.append_eq, List.append, List.cons_append, List.nil_append]
  go_wp2_with (first
      | (go_at_call 21; (with_reducible refine (windrowref06_Right.calls P T R _ _ HR6.out).mono ?_; rintro e w9 ⟨rfl, hb⟩; clear c0 c1 c2; replace KB := Lib.hid (blk_below KB.out hb); replace HB := Lib.hid (HB.out.trans (hb.mono HB.out.size)); (obtain ⟨c0, -⟩ := Hp.blk_cell KB.out 0 rfl); (obtain ⟨c1, -⟩ := Hp.blk_cell KB.out 1 rfl); (obtain ⟨c2, -⟩ := Hp.blk_cell KB.out 2 rfl); clear hb))
      | (go_at_call 13; (with_reducible refine (windrowlaw07_plan.calls P T R P T R _ rfl).mono ?_; rintro e w9 ⟨rfl, hb⟩; (try replace HS := Lib.hid (HS.out.below hb)); clear c0 c1 c2; replace KB := Lib.hid (blk_below KB.out hb); replace HB := Lib.hid (HB.out.trans (hb.mono HB.out.size)); (obtain ⟨c0, -⟩ := Hp.blk_cell KB.out 0 rfl); (obtain ⟨c1, -⟩ := Hp.blk_cell KB.out 1 rfl); (obtain ⟨c2, -⟩ := Hp.blk_cell KB.out 2 rfl); clear hb))
      | (go_at_call 12; (with_reducible refine (newPush_no _ P T R t 0 _ HRt.out (.inr rfl)).mono ?_; rintro e w9 ⟨rfl, hb⟩; clear c0 c1 c2; replace KB := Lib.hid (blk_below KB.out hb); replace HB := Lib.hid (HB.out.trans (hb.mono HB.out.size)); (obtain ⟨c0, -⟩ := Hp.blk_cell KB.out 0 rfl); (obtain ⟨c1, -⟩ := Hp.blk_cell KB.out 1 rfl); (obtain ⟨c2, -⟩ := Hp.blk_cell KB.out 2 rfl); clear hb))
      | (go_at_call 22; (with_reducible refine (newPop_yes _ P T R t HRt.out).mono ?_; rintro e w9 ⟨m2, rfl, -, -, hb⟩; clear c0 c1 c2; replace KB := Lib.hid (blk_below KB.out hb); replace HB := Lib.hid (HB.out.trans (hb.mono HB.out.size)); (obtain ⟨c0, -⟩ := Hp.blk_cell KB.out 0 rfl); (obtain ⟨c1, -⟩ := Hp.blk_cell KB.out 1 rfl); (obtain ⟨c2, -⟩ := Hp.blk_cell KB.out 2 rfl); clear hb))
      | (go_at_call 23; ((have hm := sys_new w.heap.size _ 1 false (by omega) (by omega) HB.out.size); rw [show ((1 : Nat) : Int) = 1 from rfl] at hm; with_reducible refine hm.mono ?_; clear hm; rintro e w9 ⟨a, c, rfl, hS, hb, -, -⟩; (have HS := Lib.hid hS); clear c0 c1 c2; replace KB := Lib.hid (blk_below KB.out hb); replace HB := Lib.hid (HB.out.trans (hb.mono HB.out.size)); (obtain ⟨c0, -⟩ := Hp.blk_cell KB.out 0 rfl); (obtain ⟨c1, -⟩ := Hp.blk_cell KB.out 1 rfl); (obtain ⟨c2, -⟩ := Hp.blk_cell KB.out 2 rfl); clear hb hS))
      | (go_at_call 20; (with_reducible refine (waiting_addr HS.out P T R t _ HRt.out HHd.out HNo.out).mono ?_; rintro e w9 ⟨rfl, hb⟩; clear c0 c1 c2; replace KB := Lib.hid (blk_below KB.out hb); replace HB := Lib.hid (HB.out.trans (hb.mono HB.out.size)); (obtain ⟨c0, -⟩ := Hp.blk_cell KB.out 0 rfl); (obtain ⟨c1, -⟩ := Hp.blk_cell KB.out 1 rfl); (obtain ⟨c2, -⟩ := Hp.blk_cell KB.out 2 rfl); clear hb))
      | (go_at_call 8; (with_reducible refine (ringed _).mono ?_; rintro e w9 ⟨rfl, hb⟩; clear c0 c1 c2; replace KB := Lib.hid (blk_below KB.out hb); replace HB := Lib.hid (HB.out.trans (hb.mono HB.out.size)); (obtain ⟨c0, -⟩ := Hp.blk_cell KB.out 0 rfl); (obtain ⟨c1, -⟩ := Hp.blk_cell KB.out 1 rfl); (obtain ⟨c2, -⟩ := Hp.blk_cell KB.out 2 rfl); clear hb))
      | (go_at_call 24; (with_reducible refine (push_step_nil _ _).mono ?_; rintro e w9 ⟨rfl, hw⟩; obtain rfl := hw.symm))
      | (go_at_call 25; (with_reducible refine (push_over_nil _).mono ?_; rintro e w9 ⟨rfl, hw⟩; obtain rfl := hw.symm))
      | (go_at_call 17; (with_reducible refine (push_full_nil _).mono ?_; rintro e w9 ⟨rfl, hw⟩; obtain rfl := hw.symm))
      | (go_at_call 26; (with_reducible refine (pop_step_nil _ _).mono ?_; rintro e w9 ⟨rfl, hw⟩; obtain rfl := hw.symm))
      | (go_at_call 27; (with_reducible refine (pop_over_nil _).mono ?_; rintro e w9 ⟨rfl, hw⟩; obtain rfl := hw.symm))
      | (go_at_call 28; (with_reducible refine (pop_empty_nil _).mono ?_; rintro e w9 ⟨rfl, hw⟩; obtain rfl := hw.symm))
      | (go_at_call 29; (with_reducible refine (pop_value_nil _).mono ?_; rintro e w9 ⟨rfl, hw⟩; obtain rfl := hw.symm)))
  go_ret
  exact ⟨rfl, HB.out⟩

set_option maxHeartbeats 4000000 in
set_option maxRecDepth 100000 in
theorem nils_n1 (P T R t v : Int) (w : World) (h : ¬ (plOk P T R ∧ 0 ≤ t ∧ t < T)) (hp : ¬ plOk P T R) :
    Calls Try.prog 5 #[.agg #[.int .i64 P, .int .i64 T, .int .i64 R], .int .i64 t, .int .u64 v] w fun e w' => e = .returned (.bool true) ∧ Below w.heap.size w w' := by
  have HRt : Hid (ring_right.f P T R t = some false) := Lib.hid (by rw [rp_ring, decide_eq_false (fun z => h z)])
  have HR6 : Hid (windrowref06_Right.f P T R = some false) := Lib.hid (by rw [rp_right6, decide_eq_false hp])
  clear h hp
  have KB := Lib.hid (Hp.blk_new w (.cells #[.int .i64 P, .int .i64 T, .int .i64 R] 23))
  have HB := Lib.hid ((Below.refl w.heap.size w).alloc (Nat.le_refl _) (.cells #[.int .i64 P, .int .i64 T, .int .i64 R] 23))
  obtain ⟨c0, -⟩ := Hp.blk_cell KB.out 0 rfl
  obtain ⟨c1, -⟩ := Hp.blk_cell KB.out 1 rfl
  obtain ⟨c2, -⟩ := Hp.blk_cell KB.out 2 rfl
  go_enter Try.func5, Try.ntmps5
  go_upto_region 8 with (first
      | (go_at_call 21; (with_reducible refine (windrowref06_Right.calls P T R _ _ HR6.out).mono ?_; rintro e w9 ⟨rfl, hb⟩; clear c0 c1 c2; replace KB := Lib.hid (blk_below KB.out hb); replace HB := Lib.hid (HB.out.trans (hb.mono HB.out.size)); (obtain ⟨c0, -⟩ := Hp.blk_cell KB.out 0 rfl); (obtain ⟨c1, -⟩ := Hp.blk_cell KB.out 1 rfl); (obtain ⟨c2, -⟩ := Hp.blk_cell KB.out 2 rfl); clear hb))
      | (go_at_call 13; (with_reducible refine (windrowlaw07_plan.calls P T R P T R _ rfl).mono ?_; rintro e w9 ⟨rfl, hb⟩; (try replace HS := Lib.hid (HS.out.below hb)); clear c0 c1 c2; replace KB := Lib.hid (blk_below KB.out hb); replace HB := Lib.hid (HB.out.trans (hb.mono HB.out.size)); (obtain ⟨c0, -⟩ := Hp.blk_cell KB.out 0 rfl); (obtain ⟨c1, -⟩ := Hp.blk_cell KB.out 1 rfl); (obtain ⟨c2, -⟩ := Hp.blk_cell KB.out 2 rfl); clear hb))
      | (go_at_call 12; (with_reducible refine (newPush_no _ P T R t v _ HRt.out (.inl rfl)).mono ?_; rintro e w9 ⟨rfl, hb⟩; clear c0 c1 c2; replace KB := Lib.hid (blk_below KB.out hb); replace HB := Lib.hid (HB.out.trans (hb.mono HB.out.size)); (obtain ⟨c0, -⟩ := Hp.blk_cell KB.out 0 rfl); (obtain ⟨c1, -⟩ := Hp.blk_cell KB.out 1 rfl); (obtain ⟨c2, -⟩ := Hp.blk_cell KB.out 2 rfl); clear hb))
      | (go_at_call 22; (with_reducible refine (newPop_no _ P T R t HRt.out).mono ?_; rintro e w9 ⟨rfl, hb⟩; clear c0 c1 c2; replace KB := Lib.hid (blk_below KB.out hb); replace HB := Lib.hid (HB.out.trans (hb.mono HB.out.size)); (obtain ⟨c0, -⟩ := Hp.blk_cell KB.out 0 rfl); (obtain ⟨c1, -⟩ := Hp.blk_cell KB.out 1 rfl); (obtain ⟨c2, -⟩ := Hp.blk_cell KB.out 2 rfl); clear hb))
      | (go_at_call 23; ((have hm := sys_new w.heap.size _ 1 false (by omega) (by omega) HB.out.size); rw [show ((1 : Nat) : Int) = 1 from rfl] at hm; with_reducible refine hm.mono ?_; clear hm; rintro e w9 ⟨a, c, rfl, hS, hb, -, -⟩; (have HS := Lib.hid hS); clear c0 c1 c2; replace KB := Lib.hid (blk_below KB.out hb); replace HB := Lib.hid (HB.out.trans (hb.mono HB.out.size)); (obtain ⟨c0, -⟩ := Hp.blk_cell KB.out 0 rfl); (obtain ⟨c1, -⟩ := Hp.blk_cell KB.out 1 rfl); (obtain ⟨c2, -⟩ := Hp.blk_cell KB.out 2 rfl); clear hb hS))
      | (go_at_call 20; (with_reducible refine (waiting_no _ _ P T R t HRt.out).mono ?_; rintro e w9 ⟨rfl, hb⟩; clear c0 c1 c2; replace KB := Lib.hid (blk_below KB.out hb); replace HB := Lib.hid (HB.out.trans (hb.mono HB.out.size)); (obtain ⟨c0, -⟩ := Hp.blk_cell KB.out 0 rfl); (obtain ⟨c1, -⟩ := Hp.blk_cell KB.out 1 rfl); (obtain ⟨c2, -⟩ := Hp.blk_cell KB.out 2 rfl); clear hb))
      | (go_at_call 8; (with_reducible refine (ringed _).mono ?_; rintro e w9 ⟨rfl, hb⟩; clear c0 c1 c2; replace KB := Lib.hid (blk_below KB.out hb); replace HB := Lib.hid (HB.out.trans (hb.mono HB.out.size)); (obtain ⟨c0, -⟩ := Hp.blk_cell KB.out 0 rfl); (obtain ⟨c1, -⟩ := Hp.blk_cell KB.out 1 rfl); (obtain ⟨c2, -⟩ := Hp.blk_cell KB.out 2 rfl); clear hb))
      | (go_at_call 24; (with_reducible refine (push_step_nil _ _).mono ?_; rintro e w9 ⟨rfl, hw⟩; obtain rfl := hw.symm))
      | (go_at_call 25; (with_reducible refine (push_over_nil _).mono ?_; rintro e w9 ⟨rfl, hw⟩; obtain rfl := hw.symm))
      | (go_at_call 17; (with_reducible refine (push_full_nil _).mono ?_; rintro e w9 ⟨rfl, hw⟩; obtain rfl := hw.symm))
      | (go_at_call 26; (with_reducible refine (pop_step_nil _ _).mono ?_; rintro e w9 ⟨rfl, hw⟩; obtain rfl := hw.symm))
      | (go_at_call 27; (with_reducible refine (pop_over_nil _).mono ?_; rintro e w9 ⟨rfl, hw⟩; obtain rfl := hw.symm))
      | (go_at_call 28; (with_reducible refine (pop_empty_nil _).mono ?_; rintro e w9 ⟨rfl, hw⟩; obtain rfl := hw.symm))
      | (go_at_call 29; (with_reducible refine (pop_value_nil _).mono ?_; rintro e w9 ⟨rfl, hw⟩; obtain rfl := hw.symm)))
  try simp only [List.append_eq, List.append, List.cons_append, List.nil_append]
  go_wp2_with (first
      | (go_at_call 21; (with_reducible refine (windrowref06_Right.calls P T R _ _ HR6.out).mono ?_; rintro e w9 ⟨rfl, hb⟩; clear c0 c1 c2; replace KB := Lib.hid (blk_below KB.out hb); replace HB := Lib.hid (HB.out.trans (hb.mono HB.out.size)); (obtain ⟨c0, -⟩ := Hp.blk_cell KB.out 0 rfl); (obtain ⟨c1, -⟩ := Hp.blk_cell KB.out 1 rfl); (obtain ⟨c2, -⟩ := Hp.blk_cell KB.out 2 rfl); clear hb))
      | (go_at_call 13; (with_reducible refine (windrowlaw07_plan.calls P T R P T R _ rfl).mono ?_; rintro e w9 ⟨rfl, hb⟩; (try replace HS := Lib.hid (HS.out.below hb)); clear c0 c1 c2; replace KB := Lib.hid (blk_below KB.out hb); replace HB := Lib.hid (HB.out.trans (hb.mono HB.out.size)); (obtain ⟨c0, -⟩ := Hp.blk_cell KB.out 0 rfl); (obtain ⟨c1, -⟩ := Hp.blk_cell KB.out 1 rfl); (obtain ⟨c2, -⟩ := Hp.blk_cell KB.out 2 rfl); clear hb))
      | (go_at_call 12; (with_reducible refine (newPush_no _ P T R t v _ HRt.out (.inl rfl)).mono ?_; rintro e w9 ⟨rfl, hb⟩; clear c0 c1 c2; replace KB := Lib.hid (blk_below KB.out hb); replace HB := Lib.hid (HB.out.trans (hb.mono HB.out.size)); (obtain ⟨c0, -⟩ := Hp.blk_cell KB.out 0 rfl); (obtain ⟨c1, -⟩ := Hp.blk_cell KB.out 1 rfl); (obtain ⟨c2, -⟩ := Hp.blk_cell KB.out 2 rfl); clear hb))
      | (go_at_call 22; (with_reducible refine (newPop_no _ P T R t HRt.out).mono ?_; rintro e w9 ⟨rfl, hb⟩; clear c0 c1 c2; replace KB := Lib.hid (blk_below KB.out hb); replace HB := Lib.hid (HB.out.trans (hb.mono HB.out.size)); (obtain ⟨c0, -⟩ := Hp.blk_cell KB.out 0 rfl); (obtain ⟨c1, -⟩ := Hp.blk_cell KB.out 1 rfl); (obtain ⟨c2, -⟩ := Hp.blk_cell KB.out 2 rfl); clear hb))
      | (go_at_call 23; ((have hm := sys_new w.heap.size _ 1 false (by omega) (by omega) HB.out.size); rw [show ((1 : Nat) : Int) = 1 from rfl] at hm; with_reducible refine hm.mono ?_; clear hm; rintro e w9 ⟨a, c, rfl, hS, hb, -, -⟩; (have HS := Lib.hid hS); clear c0 c1 c2; replace KB := Lib.hid (blk_below KB.out hb); replace HB := Lib.hid (HB.out.trans (hb.mono HB.out.size)); (obtain ⟨c0, -⟩ := Hp.blk_cell KB.out 0 rfl); (obtain ⟨c1, -⟩ := Hp.blk_cell KB.out 1 rfl); (obtain ⟨c2, -⟩ := Hp.blk_cell KB.out 2 rfl); clear hb hS))
      | (go_at_call 20; (with_reducible refine (waiting_no _ _ P T R t HRt.out).mono ?_; rintro e w9 ⟨rfl, hb⟩; clear c0 c1 c2; replace KB := Lib.hid (blk_below KB.out hb); replace HB := Lib.hid (HB.out.trans (hb.mono HB.out.size)); (obtain ⟨c0, -⟩ := Hp.blk_cell KB.out 0 rfl); (obtain ⟨c1, -⟩ := Hp.blk_cell KB.out 1 rfl); (obtain ⟨c2, -⟩ := Hp.blk_cell KB.out 2 rfl); clear hb))
      | (go_at_call 8; (with_reducible refine (ringed _).mono ?_; rintro e w9 ⟨rfl, hb⟩; clear c0 c1 c2; replace KB := Lib.hid (blk_below KB.out hb); replace HB := Lib.hid (HB.out.trans (hb.mono HB.out.size)); (obtain ⟨c0, -⟩ := Hp.blk_cell KB.out 0 rfl); (obtain ⟨c1, -⟩ := Hp.blk_cell KB.out 1 rfl); (obtain ⟨c2, -⟩ := Hp.blk_cell KB.out 2 rfl); clear hb))
      | (go_at_call 24; (with_reducible refine (push_step_nil _ _).mono ?_; rintro e w9 ⟨rfl, hw⟩; obtain rfl := hw.symm))
      | (go_at_call 25; (with_reducible refine (push_over_nil _).mono ?_; rintro e w9 ⟨rfl, hw⟩; obtain rfl := hw.symm))
      | (go_at_call 17; (with_reducible refine (push_full_nil _).mono ?_; rintro e w9 ⟨rfl, hw⟩; obtain rfl := hw.symm))
      | (go_at_call 26; (with_reducible refine (pop_step_nil _ _).mono ?_; rintro e w9 ⟨rfl, hw⟩; obtain rfl := hw.symm))
      | (go_at_call 27; (with_reducible refine (pop_over_nil _).mono ?_; rintro e w9 ⟨rfl, hw⟩; obtain rfl := hw.symm))
      | (go_at_call 28; (with_reducible refine (pop_empty_nil _).mono ?_; rintro e w9 ⟨rfl, hw⟩; obtain rfl := hw.symm))
      | (go_at_call 29; (with_reducible refine (pop_value_nil _).mono ?_; rintro e w9 ⟨rfl, hw⟩; obtain rfl := hw.symm)))
  go_ret
  exact ⟨rfl, HB.out⟩

set_option maxHeartbeats 4000000 in
set_option maxRecDepth 100000 in
theorem nils_n2 (P T R t v : Int) (w : World) (h : ¬ (plOk P T R ∧ 0 ≤ t ∧ t < T)) (hp : plOk P T R) (h0 : t < 0) :
    Calls Try.prog 5 #[.agg #[.int .i64 P, .int .i64 T, .int .i64 R], .int .i64 t, .int .u64 v] w fun e w' => e = .returned (.bool true) ∧ Below w.heap.size w w' := by
  have HRt : Hid (ring_right.f P T R t = some false) := Lib.hid (by rw [rp_ring, decide_eq_false (fun z => h z)])
  have HR6 : Hid (windrowref06_Right.f P T R = some true) := Lib.hid (by rw [rp_right6, decide_eq_true hp])
  clear h hp
  have KB := Lib.hid (Hp.blk_new w (.cells #[.int .i64 P, .int .i64 T, .int .i64 R] 23))
  have HB := Lib.hid ((Below.refl w.heap.size w).alloc (Nat.le_refl _) (.cells #[.int .i64 P, .int .i64 T, .int .i64 R] 23))
  obtain ⟨c0, -⟩ := Hp.blk_cell KB.out 0 rfl
  obtain ⟨c1, -⟩ := Hp.blk_cell KB.out 1 rfl
  obtain ⟨c2, -⟩ := Hp.blk_cell KB.out 2 rfl
  go_enter Try.func5, Try.ntmps5
  go_upto_region 8 with (first
      | (go_at_call 21; (with_reducible refine (windrowref06_Right.calls P T R _ _ HR6.out).mono ?_; rintro e w9 ⟨rfl, hb⟩; clear c0 c1 c2; replace KB := Lib.hid (blk_below KB.out hb); replace HB := Lib.hid (HB.out.trans (hb.mono HB.out.size)); (obtain ⟨c0, -⟩ := Hp.blk_cell KB.out 0 rfl); (obtain ⟨c1, -⟩ := Hp.blk_cell KB.out 1 rfl); (obtain ⟨c2, -⟩ := Hp.blk_cell KB.out 2 rfl); clear hb))
      | (go_at_call 13; (with_reducible refine (windrowlaw07_plan.calls P T R P T R _ rfl).mono ?_; rintro e w9 ⟨rfl, hb⟩; (try replace HS := Lib.hid (HS.out.below hb)); clear c0 c1 c2; replace KB := Lib.hid (blk_below KB.out hb); replace HB := Lib.hid (HB.out.trans (hb.mono HB.out.size)); (obtain ⟨c0, -⟩ := Hp.blk_cell KB.out 0 rfl); (obtain ⟨c1, -⟩ := Hp.blk_cell KB.out 1 rfl); (obtain ⟨c2, -⟩ := Hp.blk_cell KB.out 2 rfl); clear hb))
      | (go_at_call 12; (with_reducible refine (newPush_no _ P T R t v _ HRt.out (.inl rfl)).mono ?_; rintro e w9 ⟨rfl, hb⟩; clear c0 c1 c2; replace KB := Lib.hid (blk_below KB.out hb); replace HB := Lib.hid (HB.out.trans (hb.mono HB.out.size)); (obtain ⟨c0, -⟩ := Hp.blk_cell KB.out 0 rfl); (obtain ⟨c1, -⟩ := Hp.blk_cell KB.out 1 rfl); (obtain ⟨c2, -⟩ := Hp.blk_cell KB.out 2 rfl); clear hb))
      | (go_at_call 22; (with_reducible refine (newPop_no _ P T R t HRt.out).mono ?_; rintro e w9 ⟨rfl, hb⟩; clear c0 c1 c2; replace KB := Lib.hid (blk_below KB.out hb); replace HB := Lib.hid (HB.out.trans (hb.mono HB.out.size)); (obtain ⟨c0, -⟩ := Hp.blk_cell KB.out 0 rfl); (obtain ⟨c1, -⟩ := Hp.blk_cell KB.out 1 rfl); (obtain ⟨c2, -⟩ := Hp.blk_cell KB.out 2 rfl); clear hb))
      | (go_at_call 23; ((have hm := sys_new w.heap.size _ 1 false (by omega) (by omega) HB.out.size); rw [show ((1 : Nat) : Int) = 1 from rfl] at hm; with_reducible refine hm.mono ?_; clear hm; rintro e w9 ⟨a, c, rfl, hS, hb, -, -⟩; (have HS := Lib.hid hS); clear c0 c1 c2; replace KB := Lib.hid (blk_below KB.out hb); replace HB := Lib.hid (HB.out.trans (hb.mono HB.out.size)); (obtain ⟨c0, -⟩ := Hp.blk_cell KB.out 0 rfl); (obtain ⟨c1, -⟩ := Hp.blk_cell KB.out 1 rfl); (obtain ⟨c2, -⟩ := Hp.blk_cell KB.out 2 rfl); clear hb hS))
      | (go_at_call 20; (with_reducible refine (waiting_no _ _ P T R t HRt.out).mono ?_; rintro e w9 ⟨rfl, hb⟩; clear c0 c1 c2; replace KB := Lib.hid (blk_below KB.out hb); replace HB := Lib.hid (HB.out.trans (hb.mono HB.out.size)); (obtain ⟨c0, -⟩ := Hp.blk_cell KB.out 0 rfl); (obtain ⟨c1, -⟩ := Hp.blk_cell KB.out 1 rfl); (obtain ⟨c2, -⟩ := Hp.blk_cell KB.out 2 rfl); clear hb))
      | (go_at_call 8; (with_reducible refine (ringed _).mono ?_; rintro e w9 ⟨rfl, hb⟩; clear c0 c1 c2; replace KB := Lib.hid (blk_below KB.out hb); replace HB := Lib.hid (HB.out.trans (hb.mono HB.out.size)); (obtain ⟨c0, -⟩ := Hp.blk_cell KB.out 0 rfl); (obtain ⟨c1, -⟩ := Hp.blk_cell KB.out 1 rfl); (obtain ⟨c2, -⟩ := Hp.blk_cell KB.out 2 rfl); clear hb))
      | (go_at_call 24; (with_reducible refine (push_step_nil _ _).mono ?_; rintro e w9 ⟨rfl, hw⟩; obtain rfl := hw.symm))
      | (go_at_call 25; (with_reducible refine (push_over_nil _).mono ?_; rintro e w9 ⟨rfl, hw⟩; obtain rfl := hw.symm))
      | (go_at_call 17; (with_reducible refine (push_full_nil _).mono ?_; rintro e w9 ⟨rfl, hw⟩; obtain rfl := hw.symm))
      | (go_at_call 26; (with_reducible refine (pop_step_nil _ _).mono ?_; rintro e w9 ⟨rfl, hw⟩; obtain rfl := hw.symm))
      | (go_at_call 27; (with_reducible refine (pop_over_nil _).mono ?_; rintro e w9 ⟨rfl, hw⟩; obtain rfl := hw.symm))
      | (go_at_call 28; (with_reducible refine (pop_empty_nil _).mono ?_; rintro e w9 ⟨rfl, hw⟩; obtain rfl := hw.symm))
      | (go_at_call 29; (with_reducible refine (pop_value_nil _).mono ?_; rintro e w9 ⟨rfl, hw⟩; obtain rfl := hw.symm)))
  try simp only [List.append_eq, List.append, List.cons_append, List.nil_append]
  go_wp2_with (first
      | (go_at_call 21; (with_reducible refine (windrowref06_Right.calls P T R _ _ HR6.out).mono ?_; rintro e w9 ⟨rfl, hb⟩; clear c0 c1 c2; replace KB := Lib.hid (blk_below KB.out hb); replace HB := Lib.hid (HB.out.trans (hb.mono HB.out.size)); (obtain ⟨c0, -⟩ := Hp.blk_cell KB.out 0 rfl); (obtain ⟨c1, -⟩ := Hp.blk_cell KB.out 1 rfl); (obtain ⟨c2, -⟩ := Hp.blk_cell KB.out 2 rfl); clear hb))
      | (go_at_call 13; (with_reducible refine (windrowlaw07_plan.calls P T R P T R _ rfl).mono ?_; rintro e w9 ⟨rfl, hb⟩; (try replace HS := Lib.hid (HS.out.below hb)); clear c0 c1 c2; replace KB := Lib.hid (blk_below KB.out hb); replace HB := Lib.hid (HB.out.trans (hb.mono HB.out.size)); (obtain ⟨c0, -⟩ := Hp.blk_cell KB.out 0 rfl); (obtain ⟨c1, -⟩ := Hp.blk_cell KB.out 1 rfl); (obtain ⟨c2, -⟩ := Hp.blk_cell KB.out 2 rfl); clear hb))
      | (go_at_call 12; (with_reducible refine (newPush_no _ P T R t v _ HRt.out (.inl rfl)).mono ?_; rintro e w9 ⟨rfl, hb⟩; clear c0 c1 c2; replace KB := Lib.hid (blk_below KB.out hb); replace HB := Lib.hid (HB.out.trans (hb.mono HB.out.size)); (obtain ⟨c0, -⟩ := Hp.blk_cell KB.out 0 rfl); (obtain ⟨c1, -⟩ := Hp.blk_cell KB.out 1 rfl); (obtain ⟨c2, -⟩ := Hp.blk_cell KB.out 2 rfl); clear hb))
      | (go_at_call 22; (with_reducible refine (newPop_no _ P T R t HRt.out).mono ?_; rintro e w9 ⟨rfl, hb⟩; clear c0 c1 c2; replace KB := Lib.hid (blk_below KB.out hb); replace HB := Lib.hid (HB.out.trans (hb.mono HB.out.size)); (obtain ⟨c0, -⟩ := Hp.blk_cell KB.out 0 rfl); (obtain ⟨c1, -⟩ := Hp.blk_cell KB.out 1 rfl); (obtain ⟨c2, -⟩ := Hp.blk_cell KB.out 2 rfl); clear hb))
      | (go_at_call 23; ((have hm := sys_new w.heap.size _ 1 false (by omega) (by omega) HB.out.size); rw [show ((1 : Nat) : Int) = 1 from rfl] at hm; with_reducible refine hm.mono ?_; clear hm; rintro e w9 ⟨a, c, rfl, hS, hb, -, -⟩; (have HS := Lib.hid hS); clear c0 c1 c2; replace KB := Lib.hid (blk_below KB.out hb); replace HB := Lib.hid (HB.out.trans (hb.mono HB.out.size)); (obtain ⟨c0, -⟩ := Hp.blk_cell KB.out 0 rfl); (obtain ⟨c1, -⟩ := Hp.blk_cell KB.out 1 rfl); (obtain ⟨c2, -⟩ := Hp.blk_cell KB.out 2 rfl); clear hb hS))
      | (go_at_call 20; (with_reducible refine (waiting_no _ _ P T R t HRt.out).mono ?_; rintro e w9 ⟨rfl, hb⟩; clear c0 c1 c2; replace KB := Lib.hid (blk_below KB.out hb); replace HB := Lib.hid (HB.out.trans (hb.mono HB.out.size)); (obtain ⟨c0, -⟩ := Hp.blk_cell KB.out 0 rfl); (obtain ⟨c1, -⟩ := Hp.blk_cell KB.out 1 rfl); (obtain ⟨c2, -⟩ := Hp.blk_cell KB.out 2 rfl); clear hb))
      | (go_at_call 8; (with_reducible refine (ringed _).mono ?_; rintro e w9 ⟨rfl, hb⟩; clear c0 c1 c2; replace KB := Lib.hid (blk_below KB.out hb); replace HB := Lib.hid (HB.out.trans (hb.mono HB.out.size)); (obtain ⟨c0, -⟩ := Hp.blk_cell KB.out 0 rfl); (obtain ⟨c1, -⟩ := Hp.blk_cell KB.out 1 rfl); (obtain ⟨c2, -⟩ := Hp.blk_cell KB.out 2 rfl); clear hb))
      | (go_at_call 24; (with_reducible refine (push_step_nil _ _).mono ?_; rintro e w9 ⟨rfl, hw⟩; obtain rfl := hw.symm))
      | (go_at_call 25; (with_reducible refine (push_over_nil _).mono ?_; rintro e w9 ⟨rfl, hw⟩; obtain rfl := hw.symm))
      | (go_at_call 17; (with_reducible refine (push_full_nil _).mono ?_; rintro e w9 ⟨rfl, hw⟩; obtain rfl := hw.symm))
      | (go_at_call 26; (with_reducible refine (pop_step_nil _ _).mono ?_; rintro e w9 ⟨rfl, hw⟩; obtain rfl := hw.symm))
      | (go_at_call 27; (with_reducible refine (pop_over_nil _).mono ?_; rintro e w9 ⟨rfl, hw⟩; obtain rfl := hw.symm))
      | (go_at_call 28; (with_reducible refine (pop_empty_nil _).mono ?_; rintro e w9 ⟨rfl, hw⟩; obtain rfl := hw.symm))
      | (go_at_call 29; (with_reducible refine (pop_value_nil _).mono ?_; rintro e w9 ⟨rfl, hw⟩; obtain rfl := hw.symm)))
  go_ret
  exact ⟨rfl, HB.out⟩

set_option maxHeartbeats 4000000 in
set_option maxRecDepth 100000 in
theorem nils_n3 (P T R t v : Int) (w : World) (h : ¬ (plOk P T R ∧ 0 ≤ t ∧ t < T)) (hp : plOk P T R) (h0 : 0 ≤ t) (h1 : T ≤ t) :
    Calls Try.prog 5 #[.agg #[.int .i64 P, .int .i64 T, .int .i64 R], .int .i64 t, .int .u64 v] w fun e w' => e = .returned (.bool true) ∧ Below w.heap.size w w' := by
  have HRt : Hid (ring_right.f P T R t = some false) := Lib.hid (by rw [rp_ring, decide_eq_false (fun z => h z)])
  have HR6 : Hid (windrowref06_Right.f P T R = some true) := Lib.hid (by rw [rp_right6, decide_eq_true hp])
  clear h hp
  have KB := Lib.hid (Hp.blk_new w (.cells #[.int .i64 P, .int .i64 T, .int .i64 R] 23))
  have HB := Lib.hid ((Below.refl w.heap.size w).alloc (Nat.le_refl _) (.cells #[.int .i64 P, .int .i64 T, .int .i64 R] 23))
  obtain ⟨c0, -⟩ := Hp.blk_cell KB.out 0 rfl
  obtain ⟨c1, -⟩ := Hp.blk_cell KB.out 1 rfl
  obtain ⟨c2, -⟩ := Hp.blk_cell KB.out 2 rfl
  go_enter Try.func5, Try.ntmps5
  go_upto_region 8 with (first
      | (go_at_call 21; (with_reducible refine (windrowref06_Right.calls P T R _ _ HR6.out).mono ?_; rintro e w9 ⟨rfl, hb⟩; clear c0 c1 c2; replace KB := Lib.hid (blk_below KB.out hb); replace HB := Lib.hid (HB.out.trans (hb.mono HB.out.size)); (obtain ⟨c0, -⟩ := Hp.blk_cell KB.out 0 rfl); (obtain ⟨c1, -⟩ := Hp.blk_cell KB.out 1 rfl); (obtain ⟨c2, -⟩ := Hp.blk_cell KB.out 2 rfl); clear hb))
      | (go_at_call 13; (with_reducible refine (windrowlaw07_plan.calls P T R P T R _ rfl).mono ?_; rintro e w9 ⟨rfl, hb⟩; (try replace HS := Lib.hid (HS.out.below hb)); clear c0 c1 c2; replace KB := Lib.hid (blk_below KB.out hb); replace HB := Lib.hid (HB.out.trans (hb.mono HB.out.size)); (obtain ⟨c0, -⟩ := Hp.blk_cell KB.out 0 rfl); (obtain ⟨c1, -⟩ := Hp.blk_cell KB.out 1 rfl); (obtain ⟨c2, -⟩ := Hp.blk_cell KB.out 2 rfl); clear hb))
      | (go_at_call 12; (with_reducible refine (newPush_no _ P T R t v _ HRt.out (.inl rfl)).mono ?_; rintro e w9 ⟨rfl, hb⟩; clear c0 c1 c2; replace KB := Lib.hid (blk_below KB.out hb); replace HB := Lib.hid (HB.out.trans (hb.mono HB.out.size)); (obtain ⟨c0, -⟩ := Hp.blk_cell KB.out 0 rfl); (obtain ⟨c1, -⟩ := Hp.blk_cell KB.out 1 rfl); (obtain ⟨c2, -⟩ := Hp.blk_cell KB.out 2 rfl); clear hb))
      | (go_at_call 22; (with_reducible refine (newPop_no _ P T R t HRt.out).mono ?_; rintro e w9 ⟨rfl, hb⟩; clear c0 c1 c2; replace KB := Lib.hid (blk_below KB.out hb); replace HB := Lib.hid (HB.out.trans (hb.mono HB.out.size)); (obtain ⟨c0, -⟩ := Hp.blk_cell KB.out 0 rfl); (obtain ⟨c1, -⟩ := Hp.blk_cell KB.out 1 rfl); (obtain ⟨c2, -⟩ := Hp.blk_cell KB.out 2 rfl); clear hb))
      | (go_at_call 23; ((have hm := sys_new w.heap.size _ 1 false (by omega) (by omega) HB.out.size); rw [show ((1 : Nat) : Int) = 1 from rfl] at hm; with_reducible refine hm.mono ?_; clear hm; rintro e w9 ⟨a, c, rfl, hS, hb, -, -⟩; (have HS := Lib.hid hS); clear c0 c1 c2; replace KB := Lib.hid (blk_below KB.out hb); replace HB := Lib.hid (HB.out.trans (hb.mono HB.out.size)); (obtain ⟨c0, -⟩ := Hp.blk_cell KB.out 0 rfl); (obtain ⟨c1, -⟩ := Hp.blk_cell KB.out 1 rfl); (obtain ⟨c2, -⟩ := Hp.blk_cell KB.out 2 rfl); clear hb hS))
      | (go_at_call 20; (with_reducible refine (waiting_no _ _ P T R t HRt.out).mono ?_; rintro e w9 ⟨rfl, hb⟩; clear c0 c1 c2; replace KB := Lib.hid (blk_below KB.out hb); replace HB := Lib.hid (HB.out.trans (hb.mono HB.out.size)); (obtain ⟨c0, -⟩ := Hp.blk_cell KB.out 0 rfl); (obtain ⟨c1, -⟩ := Hp.blk_cell KB.out 1 rfl); (obtain ⟨c2, -⟩ := Hp.blk_cell KB.out 2 rfl); clear hb))
      | (go_at_call 8; (with_reducible refine (ringed _).mono ?_; rintro e w9 ⟨rfl, hb⟩; clear c0 c1 c2; replace KB := Lib.hid (blk_below KB.out hb); replace HB := Lib.hid (HB.out.trans (hb.mono HB.out.size)); (obtain ⟨c0, -⟩ := Hp.blk_cell KB.out 0 rfl); (obtain ⟨c1, -⟩ := Hp.blk_cell KB.out 1 rfl); (obtain ⟨c2, -⟩ := Hp.blk_cell KB.out 2 rfl); clear hb))
      | (go_at_call 24; (with_reducible refine (push_step_nil _ _).mono ?_; rintro e w9 ⟨rfl, hw⟩; obtain rfl := hw.symm))
      | (go_at_call 25; (with_reducible refine (push_over_nil _).mono ?_; rintro e w9 ⟨rfl, hw⟩; obtain rfl := hw.symm))
      | (go_at_call 17; (with_reducible refine (push_full_nil _).mono ?_; rintro e w9 ⟨rfl, hw⟩; obtain rfl := hw.symm))
      | (go_at_call 26; (with_reducible refine (pop_step_nil _ _).mono ?_; rintro e w9 ⟨rfl, hw⟩; obtain rfl := hw.symm))
      | (go_at_call 27; (with_reducible refine (pop_over_nil _).mono ?_; rintro e w9 ⟨rfl, hw⟩; obtain rfl := hw.symm))
      | (go_at_call 28; (with_reducible refine (pop_empty_nil _).mono ?_; rintro e w9 ⟨rfl, hw⟩; obtain rfl := hw.symm))
      | (go_at_call 29; (with_reducible refine (pop_value_nil _).mono ?_; rintro e w9 ⟨rfl, hw⟩; obtain rfl := hw.symm)))
  try simp only [List.append_eq, List.append, List.cons_append, List.nil_append]
  go_wp2_with (first
      | (go_at_call 21; (with_reducible refine (windrowref06_Right.calls P T R _ _ HR6.out).mono ?_; rintro e w9 ⟨rfl, hb⟩; clear c0 c1 c2; replace KB := Lib.hid (blk_below KB.out hb); replace HB := Lib.hid (HB.out.trans (hb.mono HB.out.size)); (obtain ⟨c0, -⟩ := Hp.blk_cell KB.out 0 rfl); (obtain ⟨c1, -⟩ := Hp.blk_cell KB.out 1 rfl); (obtain ⟨c2, -⟩ := Hp.blk_cell KB.out 2 rfl); clear hb))
      | (go_at_call 13; (with_reducible refine (windrowlaw07_plan.calls P T R P T R _ rfl).mono ?_; rintro e w9 ⟨rfl, hb⟩; (try replace HS := Lib.hid (HS.out.below hb)); clear c0 c1 c2; replace KB := Lib.hid (blk_below KB.out hb); replace HB := Lib.hid (HB.out.trans (hb.mono HB.out.size)); (obtain ⟨c0, -⟩ := Hp.blk_cell KB.out 0 rfl); (obtain ⟨c1, -⟩ := Hp.blk_cell KB.out 1 rfl); (obtain ⟨c2, -⟩ := Hp.blk_cell KB.out 2 rfl); clear hb))
      | (go_at_call 12; (with_reducible refine (newPush_no _ P T R t v _ HRt.out (.inl rfl)).mono ?_; rintro e w9 ⟨rfl, hb⟩; clear c0 c1 c2; replace KB := Lib.hid (blk_below KB.out hb); replace HB := Lib.hid (HB.out.trans (hb.mono HB.out.size)); (obtain ⟨c0, -⟩ := Hp.blk_cell KB.out 0 rfl); (obtain ⟨c1, -⟩ := Hp.blk_cell KB.out 1 rfl); (obtain ⟨c2, -⟩ := Hp.blk_cell KB.out 2 rfl); clear hb))
      | (go_at_call 22; (with_reducible refine (newPop_no _ P T R t HRt.out).mono ?_; rintro e w9 ⟨rfl, hb⟩; clear c0 c1 c2; replace KB := Lib.hid (blk_below KB.out hb); replace HB := Lib.hid (HB.out.trans (hb.mono HB.out.size)); (obtain ⟨c0, -⟩ := Hp.blk_cell KB.out 0 rfl); (obtain ⟨c1, -⟩ := Hp.blk_cell KB.out 1 rfl); (obtain ⟨c2, -⟩ := Hp.blk_cell KB.out 2 rfl); clear hb))
      | (go_at_call 23; ((have hm := sys_new w.heap.size _ 1 false (by omega) (by omega) HB.out.size); rw [show ((1 : Nat) : Int) = 1 from rfl] at hm; with_reducible refine hm.mono ?_; clear hm; rintro e w9 ⟨a, c, rfl, hS, hb, -, -⟩; (have HS := Lib.hid hS); clear c0 c1 c2; replace KB := Lib.hid (blk_below KB.out hb); replace HB := Lib.hid (HB.out.trans (hb.mono HB.out.size)); (obtain ⟨c0, -⟩ := Hp.blk_cell KB.out 0 rfl); (obtain ⟨c1, -⟩ := Hp.blk_cell KB.out 1 rfl); (obtain ⟨c2, -⟩ := Hp.blk_cell KB.out 2 rfl); clear hb hS))
      | (go_at_call 20; (with_reducible refine (waiting_no _ _ P T R t HRt.out).mono ?_; rintro e w9 ⟨rfl, hb⟩; clear c0 c1 c2; replace KB := Lib.hid (blk_below KB.out hb); replace HB := Lib.hid (HB.out.trans (hb.mono HB.out.size)); (obtain ⟨c0, -⟩ := Hp.blk_cell KB.out 0 rfl); (obtain ⟨c1, -⟩ := Hp.blk_cell KB.out 1 rfl); (obtain ⟨c2, -⟩ := Hp.blk_cell KB.out 2 rfl); clear hb))
      | (go_at_call 8; (with_reducible refine (ringed _).mono ?_; rintro e w9 ⟨rfl, hb⟩; clear c0 c1 c2; replace KB := Lib.hid (blk_below KB.out hb); replace HB := Lib.hid (HB.out.trans (hb.mono HB.out.size)); (obtain ⟨c0, -⟩ := Hp.blk_cell KB.out 0 rfl); (obtain ⟨c1, -⟩ := Hp.blk_cell KB.out 1 rfl); (obtain ⟨c2, -⟩ := Hp.blk_cell KB.out 2 rfl); clear hb))
      | (go_at_call 24; (with_reducible refine (push_step_nil _ _).mono ?_; rintro e w9 ⟨rfl, hw⟩; obtain rfl := hw.symm))
      | (go_at_call 25; (with_reducible refine (push_over_nil _).mono ?_; rintro e w9 ⟨rfl, hw⟩; obtain rfl := hw.symm))
      | (go_at_call 17; (with_reducible refine (push_full_nil _).mono ?_; rintro e w9 ⟨rfl, hw⟩; obtain rfl := hw.symm))
      | (go_at_call 26; (with_reducible refine (pop_step_nil _ _).mono ?_; rintro e w9 ⟨rfl, hw⟩; obtain rfl := hw.symm))
      | (go_at_call 27; (with_reducible refine (pop_over_nil _).mono ?_; rintro e w9 ⟨rfl, hw⟩; obtain rfl := hw.symm))
      | (go_at_call 28; (with_reducible refine (pop_empty_nil _).mono ?_; rintro e w9 ⟨rfl, hw⟩; obtain rfl := hw.symm))
      | (go_at_call 29; (with_reducible refine (pop_value_nil _).mono ?_; rintro e w9 ⟨rfl, hw⟩; obtain rfl := hw.symm)))
  go_ret
  exact ⟨rfl, HB.out⟩

theorem nils_law (P T R t v : Int) (w : World) :
    Calls Try.prog 5 #[.agg #[.int .i64 P, .int .i64 T, .int .i64 R], .int .i64 t, .int .u64 v] w fun e w' => e = .returned (.bool true) ∧ Below w.heap.size w w' := by
  by_cases h : plOk P T R ∧ 0 ≤ t ∧ t < T
  · by_cases hv : v = 0
    · exact nils_0 P T R t v w h hv
    · exact nils_v P T R t v w h hv
  · by_cases hp : plOk P T R
    · by_cases h0 : t < 0
      · exact nils_n2 P T R t v w h hp h0
      · exact nils_n3 P T R t v w h hp (by omega) (by
          by_cases h1 : T ≤ t
          · exact h1
          · exact absurd ⟨hp, by omega, by omega⟩ h)
    · exact nils_n1 P T R t v w h hp
end Go.Proofs.Ytdcikbhfoplkmaa.Ar

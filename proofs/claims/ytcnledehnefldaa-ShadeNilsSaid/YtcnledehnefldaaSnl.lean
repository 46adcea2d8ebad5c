/- Of what is no thread, or no reference, there is no machine; a nil one is over, and has nothing: for whatever plan, thread and word. -/
import Derived.Test.YtcnledehnefldaaFns
import Derived.Test.YtcnledehnefldaaLy
namespace Go.Proofs.Ytcnledehnefldaa.Ar
open Go Go.RowKit Go.Proofs.Ytcnledehnefldaa.Hp Go.Proofs.Ytcnledehnefldaa.PH Go.Proofs.Ytcnledehnefldaa.Eo
set_option linter.unusedVariables false
set_option linter.unusedSimpArgs false

theorem sn_stat_no {P T R t : Int} (h : layout_Plan_right.f P T R = some false) : layout_Plan_Status.f P T R t = some (-1) := by
  unfold layout_Plan_Status.f; rw [Lay.no_of h]; rfl
theorem sn_ring {P T R t q : Int} (h : layout_Plan_Status.f P T R t = some q) (h0 : 0 ≤ q) : ring_right.f P T R t = some true := by
  unfold ring_right.f; rw [h]; simp only [Option.bind_some]; congr 1; exact decide_eq_true h0
theorem sn_pos {R : Nat} {t : Int} (h : 0 ≤ t) : 0 ≤ 16 + t * (5 + (R : Int)) + 0 := by
  have : 0 ≤ t * (5 + (R : Int)) := Int.mul_nonneg h (by omega)
  omega
theorem sn_bs0 {P T R : Nat} (hr : Lay.right P T R) : ¬ ((Lay.bs P T R : Nat) : Int) ≤ 0 := by
  have h1 := Lay.bs_ge P T R
  have h2 : 16 ≤ Lay.tb T R := by unfold Lay.tb; omega
  omega
theorem sn_ref8_yes {P T R : Nat} {a b c d ref : Int} (hr : Lay.right P T R) (hw : 0 ≤ ref) (h : (Lay.bs P T R : Int) ≤ ref ∧ ref < Lay.cl P T R) : windrowref08_Ref.f a b c (Lay.bs P T R : Nat) d (Lay.cl P T R : Nat) ref = some true := by
  have hc := Lay.cl_le hr
  have hcb : Lay.cl P T R = Lay.bs P T R + 64 * P := rfl
  unfold windrowref08_Ref.f
  rw [if_pos (by omega), u64i (by omega) (by omega), u64i (by omega) (by omega), if_pos (by omega), decide_eq_true (by omega)]
theorem sn_ref8_no {P T R : Nat} {a b c d ref : Int} (hr : Lay.right P T R) (hw : 0 ≤ ref) (h : ¬ ((Lay.bs P T R : Int) ≤ ref ∧ ref < Lay.cl P T R)) : windrowref08_Ref.f a b c (Lay.bs P T R : Nat) d (Lay.cl P T R : Nat) ref = some false := by
  have hc := Lay.cl_le hr
  have hcb : Lay.cl P T R = Lay.bs P T R + 64 * P := rfl
  unfold windrowref08_Ref.f
  rw [if_pos (by omega), u64i (by omega) (by omega), u64i (by omega) (by omega)]
  by_cases h1 : (Lay.bs P T R : Int) ≤ ref
  · rw [if_pos (by omega), decide_eq_false (by omega)]
  · rw [if_neg (by omega)]
theorem sn_place {P T R : Nat} {ref : Int} (hr : Lay.right P T R) (hw : 0 ≤ ref) (h : (Lay.bs P T R : Int) ≤ ref ∧ ref < Lay.cl P T R) : ∃ pg b q, layout_Plan_Place.f P T R (wrap64 ref) = some (pg, b) ∧ 0 ≤ b ∧ layout_Plan_Mark.f P T R pg = some q := by
  have hc := Lay.cl_le hr
  rw [w64 (by omega) (by omega), Lay.p_place hr (by omega), if_pos h]
  exact ⟨_, _, _, rfl, Int.emod_nonneg _ (by omega), Lay.p_mark hr⟩

set_option maxHeartbeats 4000000 in
set_option maxRecDepth 100000 in
theorem snils_n0 (P T R t : Int) (w : World) (hr6 : windrowref06_Right.f P T R = some false) (hrp : layout_Plan_right.f P T R = some false) :
    Calls Try.prog 3 #[.agg #[.int .i64 P, .int .i64 T, .int .i64 R], .int .i64 t, .int .u64 0] w fun e w' => e = .returned (.bool true) ∧ Below w.heap.size w w' := by
  have HR6 := Lib.hid hr6
  have hba := Lay.no_base hrp
  have hst := sn_stat_no (t := t) hrp
  have hrf := Lay.no_ref (i := 0) hrp
  have HBa := Lib.hid hba
  have HSt := Lib.hid hst
  have HRf := Lib.hid hrf
  clear hba hst hrf hr6 hrp
  have KB := Lib.hid (Hp.blk_new w (.cells #[.int .i64 P, .int .i64 T, .int .i64 R] 23))
  have HB := Lib.hid ((Below.refl w.heap.size w).alloc (Nat.le_refl _) (.cells #[.int .i64 P, .int .i64 T, .int .i64 R] 23))
  obtain ⟨c0, -⟩ := Hp.blk_cell KB.out 0 rfl
  obtain ⟨c1, -⟩ := Hp.blk_cell KB.out 1 rfl
  obtain ⟨c2, -⟩ := Hp.blk_cell KB.out 2 rfl
  go_enter Try.func3, Try.ntmps3
  go_upto_region 8 with (first
      | (go_at_call 7; ((with_reducible refine (windrowref06_Right.calls P T R _ _ HR6.out).mono ?_); rintro e w9 ⟨rfl, hb⟩; clear c0 c1 c2; replace KB := Lib.hid (blk_below KB.out hb); (try replace HX := Lib.hid (HX.out.below hb)); (try replace HYb := Lib.hid (HYb.out.below hb)); replace HB := Lib.hid (HB.out.trans (hb.mono HB.out.size)); (obtain ⟨c0, -⟩ := Hp.blk_cell KB.out 0 rfl); (obtain ⟨c1, -⟩ := Hp.blk_cell KB.out 1 rfl); (obtain ⟨c2, -⟩ := Hp.blk_cell KB.out 2 rfl); clear hb))
      | (go_at_call 11; ((with_reducible refine (windrowlaw08_plan.calls P T R P T R _ rfl).mono ?_); rintro e w9 ⟨rfl, hb⟩; clear c0 c1 c2; replace KB := Lib.hid (blk_below KB.out hb); (try replace HX := Lib.hid (HX.out.below hb)); (try replace HYb := Lib.hid (HYb.out.below hb)); replace HB := Lib.hid (HB.out.trans (hb.mono HB.out.size)); (obtain ⟨c0, -⟩ := Hp.blk_cell KB.out 0 rfl); (obtain ⟨c1, -⟩ := Hp.blk_cell KB.out 1 rfl); (obtain ⟨c2, -⟩ := Hp.blk_cell KB.out 2 rfl); clear hb))
      | (go_at_call 10; ((with_reducible refine (newMark_plan _ P T R 0 _ HBa.out (by decide)).mono ?_); rintro e w9 ⟨rfl, hb⟩; clear c0 c1 c2; replace KB := Lib.hid (blk_below KB.out hb); (try replace HX := Lib.hid (HX.out.below hb)); (try replace HYb := Lib.hid (HYb.out.below hb)); replace HB := Lib.hid (HB.out.trans (hb.mono HB.out.size)); (obtain ⟨c0, -⟩ := Hp.blk_cell KB.out 0 rfl); (obtain ⟨c1, -⟩ := Hp.blk_cell KB.out 1 rfl); (obtain ⟨c2, -⟩ := Hp.blk_cell KB.out 2 rfl); clear hb))
      | (go_at_call 12; ((with_reducible refine (newShade_plan _ P T R t 0 _ HSt.out (by decide)).mono ?_); rintro e w9 ⟨rfl, hb⟩; clear c0 c1 c2; replace KB := Lib.hid (blk_below KB.out hb); (try replace HX := Lib.hid (HX.out.below hb)); (try replace HYb := Lib.hid (HYb.out.below hb)); replace HB := Lib.hid (HB.out.trans (hb.mono HB.out.size)); (obtain ⟨c0, -⟩ := Hp.blk_cell KB.out 0 rfl); (obtain ⟨c1, -⟩ := Hp.blk_cell KB.out 1 rfl); (obtain ⟨c2, -⟩ := Hp.blk_cell KB.out 2 rfl); clear hb)))
  try simp only [List.append_eq, List.append, List.cons_append, List.nil_append]
  go_upto_region 10 with (first
      | (go_at_call 11; ((with_reducible refine (windrowlaw08_plan.calls P T R P T R _ rfl).mono ?_); rintro e w9 ⟨rfl, hb⟩; clear c0 c1 c2; replace KB := Lib.hid (blk_below KB.out hb); (try replace HX := Lib.hid (HX.out.below hb)); (try replace HYb := Lib.hid (HYb.out.below hb)); replace HB := Lib.hid (HB.out.trans (hb.mono HB.out.size)); (obtain ⟨c0, -⟩ := Hp.blk_cell KB.out 0 rfl); (obtain ⟨c1, -⟩ := Hp.blk_cell KB.out 1 rfl); (obtain ⟨c2, -⟩ := Hp.blk_cell KB.out 2 rfl); clear hb))
      | (go_at_call 13; ((with_reducible refine (shaded _).mono ?_); rintro e w9 ⟨rfl, hb⟩; clear c0 c1 c2; replace KB := Lib.hid (blk_below KB.out hb); (try replace HX := Lib.hid (HX.out.below hb)); (try replace HYb := Lib.hid (HYb.out.below hb)); replace HB := Lib.hid (HB.out.trans (hb.mono HB.out.size)); (obtain ⟨c0, -⟩ := Hp.blk_cell KB.out 0 rfl); (obtain ⟨c1, -⟩ := Hp.blk_cell KB.out 1 rfl); (obtain ⟨c2, -⟩ := Hp.blk_cell KB.out 2 rfl); clear hb))
      | (go_at_call 14; ((with_reducible refine (mark_step_nil _ _).mono ?_); rintro e w9 ⟨rfl, hw⟩; obtain rfl := hw.symm))
      | (go_at_call 15; ((with_reducible refine (mark_over_nil _).mono ?_); rintro e w9 ⟨rfl, hw⟩; obtain rfl := hw.symm))
      | (go_at_call 16; ((with_reducible refine (mark_fresh_nil _).mono ?_); rintro e w9 ⟨rfl, hw⟩; obtain rfl := hw.symm))
      | (go_at_call 17; ((with_reducible refine (shade_step_nil _ _).mono ?_); rintro e w9 ⟨rfl, hw⟩; obtain rfl := hw.symm))
      | (go_at_call 18; ((with_reducible refine (shade_over_nil _).mono ?_); rintro e w9 ⟨rfl, hw⟩; obtain rfl := hw.symm))
      | (go_at_call 19; ((with_reducible refine (shade_fresh_nil _).mono ?_); rintro e w9 ⟨rfl, hw⟩; obtain rfl := hw.symm))
      | (go_at_call 20; ((with_reducible refine (shade_lost_nil _).mono ?_); rintro e w9 ⟨rfl, hw⟩; obtain rfl := hw.symm))
      | (go_at_call 21; ((with_reducible refine (shade_held_nil _).mono ?_); rintro e w9 ⟨rfl, hw⟩; obtain rfl := hw.symm))
      | (go_at_call 22; ((with_reducible refine (marked_no _ (.pointer none) P T R 0 HRf.out).mono ?_); rintro e w9 ⟨rfl, hb⟩; clear c0 c1 c2; replace KB := Lib.hid (blk_below KB.out hb); (try replace HX := Lib.hid (HX.out.below hb)); (try replace HYb := Lib.hid (HYb.out.below hb)); replace HB := Lib.hid (HB.out.trans (hb.mono HB.out.size)); (obtain ⟨c0, -⟩ := Hp.blk_cell KB.out 0 rfl); (obtain ⟨c1, -⟩ := Hp.blk_cell KB.out 1 rfl); (obtain ⟨c2, -⟩ := Hp.blk_cell KB.out 2 rfl); clear hb)))
  try simp only [List.append_eq, List.append, List.cons_append, List.nil_append]
  go_upto_region 12 with (fail)
  try simp only [List.append_eq, List.append, List.cons_append, List.nil_append]
  go_wp2_with (first
      | (go_at_call 15; ((with_reducible refine (mark_over_nil _).mono ?_); rintro e w9 ⟨rfl, hw⟩; obtain rfl := hw.symm))
      | (go_at_call 18; ((with_reducible refine (shade_over_nil _).mono ?_); rintro e w9 ⟨rfl, hw⟩; obtain rfl := hw.symm)))
  go_ret
  exact ⟨rfl, HB.out⟩

set_option maxHeartbeats 4000000 in
set_option maxRecDepth 100000 in
theorem snils_n1 (P T R t ref : Int) (w : World) (hr6 : windrowref06_Right.f P T R = some false) (hrp : layout_Plan_right.f P T R = some false) (hz : ref ≠ 0) :
    Calls Try.prog 3 #[.agg #[.int .i64 P, .int .i64 T, .int .i64 R], .int .i64 t, .int .u64 ref] w fun e w' => e = .returned (.bool true) ∧ Below w.heap.size w w' := by
  have HR6 := Lib.hid hr6
  have hba := Lay.no_base hrp
  have hst := sn_stat_no (t := t) hrp
  have hrf := Lay.no_ref (i := ref) hrp
  have z1 : (ref == 0) = false := by simp [hz]
  have z2 : (ref != 0) = true := by simp [hz]
  have HBa := Lib.hid hba
  have HSt := Lib.hid hst
  have HRf := Lib.hid hrf
  have HZ := Lib.hid hz
  clear hba hst hrf hr6 hrp hz
  have KB := Lib.hid (Hp.blk_new w (.cells #[.int .i64 P, .int .i64 T, .int .i64 R] 23))
  have HB := Lib.hid ((Below.refl w.heap.size w).alloc (Nat.le_refl _) (.cells #[.int .i64 P, .int .i64 T, .int .i64 R] 23))
  obtain ⟨c0, -⟩ := Hp.blk_cell KB.out 0 rfl
  obtain ⟨c1, -⟩ := Hp.blk_cell KB.out 1 rfl
  obtain ⟨c2, -⟩ := Hp.blk_cell KB.out 2 rfl
  go_enter Try.func3, Try.ntmps3
  go_upto_region 8 with (first
      | (go_at_call 7; ((with_reducible refine (windrowref06_Right.calls P T R _ _ HR6.out).mono ?_); rintro e w9 ⟨rfl, hb⟩; clear c0 c1 c2; replace KB := Lib.hid (blk_below KB.out hb); (try replace HX := Lib.hid (HX.out.below hb)); (try replace HYb := Lib.hid (HYb.out.below hb)); replace HB := Lib.hid (HB.out.trans (hb.mono HB.out.size)); (obtain ⟨c0, -⟩ := Hp.blk_cell KB.out 0 rfl); (obtain ⟨c1, -⟩ := Hp.blk_cell KB.out 1 rfl); (obtain ⟨c2, -⟩ := Hp.blk_cell KB.out 2 rfl); clear hb))
      | (go_at_call 11; ((with_reducible refine (windrowlaw08_plan.calls P T R P T R _ rfl).mono ?_); rintro e w9 ⟨rfl, hb⟩; clear c0 c1 c2; replace KB := Lib.hid (blk_below KB.out hb); (try replace HX := Lib.hid (HX.out.below hb)); (try replace HYb := Lib.hid (HYb.out.below hb)); replace HB := Lib.hid (HB.out.trans (hb.mono HB.out.size)); (obtain ⟨c0, -⟩ := Hp.blk_cell KB.out 0 rfl); (obtain ⟨c1, -⟩ := Hp.blk_cell KB.out 1 rfl); (obtain ⟨c2, -⟩ := Hp.blk_cell KB.out 2 rfl); clear hb))
      | (go_at_call 10; ((with_reducible refine (newMark_plan _ P T R ref _ HBa.out (by decide)).mono ?_); rintro e w9 ⟨rfl, hb⟩; clear c0 c1 c2; replace KB := Lib.hid (blk_below KB.out hb); (try replace HX := Lib.hid (HX.out.below hb)); (try replace HYb := Lib.hid (HYb.out.below hb)); replace HB := Lib.hid (HB.out.trans (hb.mono HB.out.size)); (obtain ⟨c0, -⟩ := Hp.blk_cell KB.out 0 rfl); (obtain ⟨c1, -⟩ := Hp.blk_cell KB.out 1 rfl); (obtain ⟨c2, -⟩ := Hp.blk_cell KB.out 2 rfl); clear hb))
      | (go_at_call 12; ((with_reducible refine (newShade_plan _ P T R t ref _ HSt.out (by decide)).mono ?_); rintro e w9 ⟨rfl, hb⟩; clear c0 c1 c2; replace KB := Lib.hid (blk_below KB.out hb); (try replace HX := Lib.hid (HX.out.below hb)); (try replace HYb := Lib.hid (HYb.out.below hb)); replace HB := Lib.hid (HB.out.trans (hb.mono HB.out.size)); (obtain ⟨c0, -⟩ := Hp.blk_cell KB.out 0 rfl); (obtain ⟨c1, -⟩ := Hp.blk_cell KB.out 1 rfl); (obtain ⟨c2, -⟩ := Hp.blk_cell KB.out 2 rfl); clear hb)))
  try simp only [List.append_eq, List.append, List.cons_append, List.nil_append]
  go_upto_region 10 with (first
      | (go_at_call 11; ((with_reducible refine (windrowlaw08_plan.calls P T R P T R _ rfl).mono ?_); rintro e w9 ⟨rfl, hb⟩; clear c0 c1 c2; replace KB := Lib.hid (blk_below KB.out hb); (try replace HX := Lib.hid (HX.out.below hb)); (try replace HYb := Lib.hid (HYb.out.below hb)); replace HB := Lib.hid (HB.out.trans (hb.mono HB.out.size)); (obtain ⟨c0, -⟩ := Hp.blk_cell KB.out 0 rfl); (obtain ⟨c1, -⟩ := Hp.blk_cell KB.out 1 rfl); (obtain ⟨c2, -⟩ := Hp.blk_cell KB.out 2 rfl); clear hb))
      | (go_at_call 13; ((with_reducible refine (shaded _).mono ?_); rintro e w9 ⟨rfl, hb⟩; clear c0 c1 c2; replace KB := Lib.hid (blk_below KB.out hb); (try replace HX := Lib.hid (HX.out.below hb)); (try replace HYb := Lib.hid (HYb.out.below hb)); replace HB := Lib.hid (HB.out.trans (hb.mono HB.out.size)); (obtain ⟨c0, -⟩ := Hp.blk_cell KB.out 0 rfl); (obtain ⟨c1, -⟩ := Hp.blk_cell KB.out 1 rfl); (obtain ⟨c2, -⟩ := Hp.blk_cell KB.out 2 rfl); clear hb))
      | (go_at_call 14; ((with_reducible refine (mark_step_nil _ _).mono ?_); rintro e w9 ⟨rfl, hw⟩; obtain rfl := hw.symm))
      | (go_at_call 15; ((with_reducible refine (mark_over_nil _).mono ?_); rintro e w9 ⟨rfl, hw⟩; obtain rfl := hw.symm))
      | (go_at_call 16; ((with_reducible refine (mark_fresh_nil _).mono ?_); rintro e w9 ⟨rfl, hw⟩; obtain rfl := hw.symm))
      | (go_at_call 17; ((with_reducible refine (shade_step_nil _ _).mono ?_); rintro e w9 ⟨rfl, hw⟩; obtain rfl := hw.symm))
      | (go_at_call 18; ((with_reducible refine (shade_over_nil _).mono ?_); rintro e w9 ⟨rfl, hw⟩; obtain rfl := hw.symm))
      | (go_at_call 19; ((with_reducible refine (shade_fresh_nil _).mono ?_); rintro e w9 ⟨rfl, hw⟩; obtain rfl := hw.symm))
      | (go_at_call 20; ((with_reducible refine (shade_lost_nil _).mono ?_); rintro e w9 ⟨rfl, hw⟩; obtain rfl := hw.symm))
      | (go_at_call 21; ((with_reducible refine (shade_held_nil _).mono ?_); rintro e w9 ⟨rfl, hw⟩; obtain rfl := hw.symm))
      | (go_at_call 22; ((with_reducible refine (marked_no _ (.pointer none) P T R ref HRf.out).mono ?_); rintro e w9 ⟨rfl, hb⟩; clear c0 c1 c2; replace KB := Lib.hid (blk_below KB.out hb); (try replace HX := Lib.hid (HX.out.below hb)); (try replace HYb := Lib.hid (HYb.out.below hb)); replace HB := Lib.hid (HB.out.trans (hb.mono HB.out.size)); (obtain ⟨c0, -⟩ := Hp.blk_cell KB.out 0 rfl); (obtain ⟨c1, -⟩ := Hp.blk_cell KB.out 1 rfl); (obtain ⟨c2, -⟩ := Hp.blk_cell KB.out 2 rfl); clear hb)))
  try simp only [List.append_eq, List.append, List.cons_append, List.nil_append]
  go_upto_region 12 with (fail)
  try simp only [List.append_eq, List.append, List.cons_append, List.nil_append]
  go_wp2_with (first
      | (go_at_call 15; ((with_reducible refine (mark_over_nil _).mono ?_); rintro e w9 ⟨rfl, hw⟩; obtain rfl := hw.symm))
      | (go_at_call 18; ((with_reducible refine (shade_over_nil _).mono ?_); rintro e w9 ⟨rfl, hw⟩; obtain rfl := hw.symm)))
  go_ret
  exact ⟨rfl, HB.out⟩

set_option maxHeartbeats 4000000 in
set_option maxRecDepth 100000 in
theorem snils_yz (P T R t : Int) (w : World) {P' T' R' : Nat} (hr : Lay.right P' T' R') (eP : P = P') (eT : T = T') (eR : R = R') (h0 : 0 ≤ t) (h1 : t < T) :
    Calls Try.prog 3 #[.agg #[.int .i64 P, .int .i64 T, .int .i64 R], .int .i64 t, .int .u64 0] w fun e w' => e = .returned (.bool true) ∧ Below w.heap.size w w' := by
  subst eP eT eR
  obtain ⟨K, hK⟩ := Lay.draw_ev hr
  have HDr : Hid (windrowref06_Draw.f K P' T' R' = some ((P' : Int), (T' : Int), (R' : Int), ((Lay.bs P' T' R' : Nat) : Int), ((Lay.tb T' R' : Nat) : Int), ((Lay.cl P' T' R' : Nat) : Int))) := Lib.hid (hK K (Nat.le_refl _))
  clear hK
  have HR6 := Lib.hid (Lay.right_true hr)
  have hba := Lay.p_base hr
  have hst : layout_Plan_Status.f P' T' R' t = some (16 + t * (5 + R') + 0) := by rw [Lay.p_status hr, if_pos ⟨h0, h1⟩]
  have hg := sn_ring hst (sn_pos h0)
  have hs0 := sn_pos (R := R') h0
  have hrf : layout_Plan_Ref.f P' T' R' 0 = some false := by rw [Lay.p_ref hr (Int.le_refl 0), decide_eq_false (fun z => absurd z.1 (sn_bs0 hr))]
  have HBa := Lib.hid hba
  have HSt := Lib.hid hst
  have HRf := Lib.hid hrf
  have HS0 := Lib.hid hs0
  have HRg := Lib.hid hg
  have t0 : decide (0 ≤ t) = true := decide_eq_true h0
  have t1 : decide (t < (T' : Int)) = true := decide_eq_true h1
  clear hba hst hrf hr hs0 hg h0 h1
  have KB := Lib.hid (Hp.blk_new w (.cells #[.int .i64 P', .int .i64 T', .int .i64 R'] 23))
  have HB := Lib.hid ((Below.refl w.heap.size w).alloc (Nat.le_refl _) (.cells #[.int .i64 P', .int .i64 T', .int .i64 R'] 23))
  obtain ⟨c0, -⟩ := Hp.blk_cell KB.out 0 rfl
  obtain ⟨c1, -⟩ := Hp.blk_cell KB.out 1 rfl
  obtain ⟨c2, -⟩ := Hp.blk_cell KB.out 2 rfl
  go_enter Try.func3, Try.ntmps3
  go_upto_region 8 with (first
      | (go_at_call 7; ((with_reducible refine (windrowref06_Right.calls P' T' R' _ _ HR6.out).mono ?_); rintro e w9 ⟨rfl, hb⟩; clear c0 c1 c2; replace KB := Lib.hid (blk_below KB.out hb); (try replace HX := Lib.hid (HX.out.below hb)); (try replace HYb := Lib.hid (HYb.out.below hb)); replace HB := Lib.hid (HB.out.trans (hb.mono HB.out.size)); (obtain ⟨c0, -⟩ := Hp.blk_cell KB.out 0 rfl); (obtain ⟨c1, -⟩ := Hp.blk_cell KB.out 1 rfl); (obtain ⟨c2, -⟩ := Hp.blk_cell KB.out 2 rfl); clear hb))
      | (go_at_call 11; ((with_reducible refine (windrowlaw08_plan.calls P' T' R' P' T' R' _ rfl).mono ?_); rintro e w9 ⟨rfl, hb⟩; clear c0 c1 c2; replace KB := Lib.hid (blk_below KB.out hb); (try replace HX := Lib.hid (HX.out.below hb)); (try replace HYb := Lib.hid (HYb.out.below hb)); replace HB := Lib.hid (HB.out.trans (hb.mono HB.out.size)); (obtain ⟨c0, -⟩ := Hp.blk_cell KB.out 0 rfl); (obtain ⟨c1, -⟩ := Hp.blk_cell KB.out 1 rfl); (obtain ⟨c2, -⟩ := Hp.blk_cell KB.out 2 rfl); clear hb))
      | (go_at_call 10; ((with_reducible refine (newMark_zero _ P' T' R' 0 _ HBa.out (Int.natCast_nonneg _) rfl).mono ?_); rintro e w9 ⟨mx, rfl, -, hX, hb⟩; clear c0 c1 c2; replace KB := Lib.hid (blk_below KB.out hb); (try replace HX := Lib.hid (HX.out.below hb)); (try replace HYb := Lib.hid (HYb.out.below hb)); replace HB := Lib.hid (HB.out.trans (hb.mono HB.out.size)); (obtain ⟨c0, -⟩ := Hp.blk_cell KB.out 0 rfl); (obtain ⟨c1, -⟩ := Hp.blk_cell KB.out 1 rfl); (obtain ⟨c2, -⟩ := Hp.blk_cell KB.out 2 rfl); clear hb; have HX := Lib.hid hX; clear hX))
      | (go_at_call 12; ((with_reducible refine (newShade_zero _ P' T' R' t _ HSt.out HS0.out _ HBa.out (Int.natCast_nonneg _)).mono ?_); rintro e w9 ⟨my, mk, rfl, -, -, hYb, -, hb⟩; clear c0 c1 c2; replace KB := Lib.hid (blk_below KB.out hb); (try replace HX := Lib.hid (HX.out.below hb)); (try replace HYb := Lib.hid (HYb.out.below hb)); replace HB := Lib.hid (HB.out.trans (hb.mono HB.out.size)); (obtain ⟨c0, -⟩ := Hp.blk_cell KB.out 0 rfl); (obtain ⟨c1, -⟩ := Hp.blk_cell KB.out 1 rfl); (obtain ⟨c2, -⟩ := Hp.blk_cell KB.out 2 rfl); clear hb; have HYb := Lib.hid hYb; clear hYb)))
  try simp only [List.append_eq, List.append, List.cons_append, List.nil_append]
  go_upto_region 10 with (first
      | (go_at_call 11; ((with_reducible refine (windrowlaw08_plan.calls P' T' R' P' T' R' _ rfl).mono ?_); rintro e w9 ⟨rfl, hb⟩; clear c0 c1 c2; replace KB := Lib.hid (blk_below KB.out hb); (try replace HX := Lib.hid (HX.out.below hb)); (try replace HYb := Lib.hid (HYb.out.below hb)); replace HB := Lib.hid (HB.out.trans (hb.mono HB.out.size)); (obtain ⟨c0, -⟩ := Hp.blk_cell KB.out 0 rfl); (obtain ⟨c1, -⟩ := Hp.blk_cell KB.out 1 rfl); (obtain ⟨c2, -⟩ := Hp.blk_cell KB.out 2 rfl); clear hb))
      | (go_at_call 13; ((with_reducible refine (shaded _).mono ?_); rintro e w9 ⟨rfl, hb⟩; clear c0 c1 c2; replace KB := Lib.hid (blk_below KB.out hb); (try replace HX := Lib.hid (HX.out.below hb)); (try replace HYb := Lib.hid (HYb.out.below hb)); replace HB := Lib.hid (HB.out.trans (hb.mono HB.out.size)); (obtain ⟨c0, -⟩ := Hp.blk_cell KB.out 0 rfl); (obtain ⟨c1, -⟩ := Hp.blk_cell KB.out 1 rfl); (obtain ⟨c2, -⟩ := Hp.blk_cell KB.out 2 rfl); clear hb))
      | (go_at_call 14; ((with_reducible refine (mark_step_nil _ _).mono ?_); rintro e w9 ⟨rfl, hw⟩; obtain rfl := hw.symm))
      | (go_at_call 15; ((with_reducible refine (mark_over_nil _).mono ?_); rintro e w9 ⟨rfl, hw⟩; obtain rfl := hw.symm))
      | (go_at_call 16; ((with_reducible refine (mark_fresh_nil _).mono ?_); rintro e w9 ⟨rfl, hw⟩; obtain rfl := hw.symm))
      | (go_at_call 17; ((with_reducible refine (shade_step_nil _ _).mono ?_); rintro e w9 ⟨rfl, hw⟩; obtain rfl := hw.symm))
      | (go_at_call 18; ((with_reducible refine (shade_over_nil _).mono ?_); rintro e w9 ⟨rfl, hw⟩; obtain rfl := hw.symm))
      | (go_at_call 19; ((with_reducible refine (shade_fresh_nil _).mono ?_); rintro e w9 ⟨rfl, hw⟩; obtain rfl := hw.symm))
      | (go_at_call 20; ((with_reducible refine (shade_lost_nil _).mono ?_); rintro e w9 ⟨rfl, hw⟩; obtain rfl := hw.symm))
      | (go_at_call 21; ((with_reducible refine (shade_held_nil _).mono ?_); rintro e w9 ⟨rfl, hw⟩; obtain rfl := hw.symm))
      | (go_at_call 22; ((with_reducible refine (marked_no _ (.pointer none) P' T' R' 0 HRf.out).mono ?_); rintro e w9 ⟨rfl, hb⟩; clear c0 c1 c2; replace KB := Lib.hid (blk_below KB.out hb); (try replace HX := Lib.hid (HX.out.below hb)); (try replace HYb := Lib.hid (HYb.out.below hb)); replace HB := Lib.hid (HB.out.trans (hb.mono HB.out.size)); (obtain ⟨c0, -⟩ := Hp.blk_cell KB.out 0 rfl); (obtain ⟨c1, -⟩ := Hp.blk_cell KB.out 1 rfl); (obtain ⟨c2, -⟩ := Hp.blk_cell KB.out 2 rfl); clear hb))
      | (go_at_call 15; ((have hm := mark_over _ mx _ HX.out); (with_reducible refine hm.mono ?_); clear hm; rintro e w9 ⟨rfl, hw⟩; obtain rfl := hw.symm))
      | (go_at_call 18; ((have hm := shade_over _ my _ _ _ _ HYb.out); (with_reducible refine hm.mono ?_); clear hm; rintro e w9 ⟨rfl, hw⟩; obtain rfl := hw.symm)))
  try simp only [List.append_eq, List.append, List.cons_append, List.nil_append]
  go_upto_region 12 with (fail)
  try simp only [List.append_eq, List.append, List.cons_append, List.nil_append]
  go_wp2_with (first
      | (go_at_call 15; ((with_reducible refine (mark_over_nil _).mono ?_); rintro e w9 ⟨rfl, hw⟩; obtain rfl := hw.symm))
      | (go_at_call 18; ((with_reducible refine (shade_over_nil _).mono ?_); rintro e w9 ⟨rfl, hw⟩; obtain rfl := hw.symm))
      | (go_at_call 15; ((have hm := mark_over _ mx _ HX.out); (with_reducible refine hm.mono ?_); clear hm; rintro e w9 ⟨rfl, hw⟩; obtain rfl := hw.symm))
      | (go_at_call 18; ((have hm := shade_over _ my _ _ _ _ HYb.out); (with_reducible refine hm.mono ?_); clear hm; rintro e w9 ⟨rfl, hw⟩; obtain rfl := hw.symm)))
  go_ret
  exact ⟨rfl, HB.out⟩

set_option maxHeartbeats 4000000 in
set_option maxRecDepth 100000 in
theorem snils_yy (P T R t ref : Int) (w : World) {P' T' R' : Nat} (hr : Lay.right P' T' R') (eP : P = P') (eT : T = T') (eR : R = R') (h0 : 0 ≤ t) (h1 : t < T) (hz : ref ≠ 0) (hw : 0 ≤ ref) (hf : ((Lay.bs P' T' R' : Int) ≤ ref ∧ ref < Lay.cl P' T' R')) :
    Calls Try.prog 3 #[.agg #[.int .i64 P, .int .i64 T, .int .i64 R], .int .i64 t, .int .u64 ref] w fun e w' => e = .returned (.bool true) ∧ Below w.heap.size w w' := by
  subst eP eT eR
  obtain ⟨K, hK⟩ := Lay.draw_ev hr
  have HDr : Hid (windrowref06_Draw.f K P' T' R' = some ((P' : Int), (T' : Int), (R' : Int), ((Lay.bs P' T' R' : Nat) : Int), ((Lay.tb T' R' : Nat) : Int), ((Lay.cl P' T' R' : Nat) : Int))) := Lib.hid (hK K (Nat.le_refl _))
  clear hK
  have HR6 := Lib.hid (Lay.right_true hr)
  have hba := Lay.p_base hr
  have hst : layout_Plan_Status.f P' T' R' t = some (16 + t * (5 + R') + 0) := by rw [Lay.p_status hr, if_pos ⟨h0, h1⟩]
  have hg := sn_ring hst (sn_pos h0)
  have hs0 := sn_pos (R := R') h0
  have z1 : (ref == 0) = false := by simp [hz]
  have z2 : (ref != 0) = true := by simp [hz]
  have hrf : layout_Plan_Ref.f P' T' R' ref = some true := by rw [Lay.p_ref hr hw, decide_eq_true hf]
  have HR8 := Lib.hid (sn_ref8_yes (a := (P' : Int)) (b := (T' : Int)) (c := (R' : Int)) (d := ((Lay.tb T' R' : Nat) : Int)) hr hw hf)
  obtain ⟨pg, b, q, hpl, hb0, hmk⟩ := sn_place hr hw hf
  have HBa := Lib.hid hba
  have HSt := Lib.hid hst
  have HRf := Lib.hid hrf
  have HZ := Lib.hid hz
  have HS0 := Lib.hid hs0
  have HRg := Lib.hid hg
  have HPl := Lib.hid hpl
  have HMk := Lib.hid hmk
  have Hb0 := Lib.hid hb0
  have t0 : decide (0 ≤ t) = true := decide_eq_true h0
  have t1 : decide (t < (T' : Int)) = true := decide_eq_true h1
  clear hba hst hrf hr hz hs0 hg h0 h1 hw hf hpl hmk hb0
  have KB := Lib.hid (Hp.blk_new w (.cells #[.int .i64 P', .int .i64 T', .int .i64 R'] 23))
  have HB := Lib.hid ((Below.refl w.heap.size w).alloc (Nat.le_refl _) (.cells #[.int .i64 P', .int .i64 T', .int .i64 R'] 23))
  obtain ⟨c0, -⟩ := Hp.blk_cell KB.out 0 rfl
  obtain ⟨c1, -⟩ := Hp.blk_cell KB.out 1 rfl
  obtain ⟨c2, -⟩ := Hp.blk_cell KB.out 2 rfl
  go_enter Try.func3, Try.ntmps3
  go_upto_region 8 with (first
      | (go_at_call 7; ((with_reducible refine (windrowref06_Right.calls P' T' R' _ _ HR6.out).mono ?_); rintro e w9 ⟨rfl, hb⟩; clear c0 c1 c2; replace KB := Lib.hid (blk_below KB.out hb); (try replace HX := Lib.hid (HX.out.below hb)); (try replace HYb := Lib.hid (HYb.out.below hb)); replace HB := Lib.hid (HB.out.trans (hb.mono HB.out.size)); (obtain ⟨c0, -⟩ := Hp.blk_cell KB.out 0 rfl); (obtain ⟨c1, -⟩ := Hp.blk_cell KB.out 1 rfl); (obtain ⟨c2, -⟩ := Hp.blk_cell KB.out 2 rfl); clear hb))
      | (go_at_call 11; ((with_reducible refine (windrowlaw08_plan.calls P' T' R' P' T' R' _ rfl).mono ?_); rintro e w9 ⟨rfl, hb⟩; clear c0 c1 c2; replace KB := Lib.hid (blk_below KB.out hb); (try replace HX := Lib.hid (HX.out.below hb)); (try replace HYb := Lib.hid (HYb.out.below hb)); replace HB := Lib.hid (HB.out.trans (hb.mono HB.out.size)); (obtain ⟨c0, -⟩ := Hp.blk_cell KB.out 0 rfl); (obtain ⟨c1, -⟩ := Hp.blk_cell KB.out 1 rfl); (obtain ⟨c2, -⟩ := Hp.blk_cell KB.out 2 rfl); clear hb))
      | (go_at_call 9; ((with_reducible refine (windrowref06_Draw.calls K P' T' R' _ _ _ _ _ _ _ HDr.out).mono ?_); rintro e w9 ⟨rfl, hb⟩; clear c0 c1 c2; replace KB := Lib.hid (blk_below KB.out hb); (try replace HX := Lib.hid (HX.out.below hb)); (try replace HYb := Lib.hid (HYb.out.below hb)); replace HB := Lib.hid (HB.out.trans (hb.mono HB.out.size)); (obtain ⟨c0, -⟩ := Hp.blk_cell KB.out 0 rfl); (obtain ⟨c1, -⟩ := Hp.blk_cell KB.out 1 rfl); (obtain ⟨c2, -⟩ := Hp.blk_cell KB.out 2 rfl); clear hb))
      | (go_at_call 8; ((with_reducible refine (windrowref08_Ref.calls _ _ _ _ _ _ ref _ _ HR8.out).mono ?_); rintro e w9 ⟨rfl, hb⟩; clear c0 c1 c2; replace KB := Lib.hid (blk_below KB.out hb); (try replace HX := Lib.hid (HX.out.below hb)); (try replace HYb := Lib.hid (HYb.out.below hb)); replace HB := Lib.hid (HB.out.trans (hb.mono HB.out.size)); (obtain ⟨c0, -⟩ := Hp.blk_cell KB.out 0 rfl); (obtain ⟨c1, -⟩ := Hp.blk_cell KB.out 1 rfl); (obtain ⟨c2, -⟩ := Hp.blk_cell KB.out 2 rfl); clear hb))
      | (go_at_call 10; ((with_reducible refine (newMark_yes _ P' T' R' ref _ HBa.out (Int.natCast_nonneg _) HZ.out HRf.out).mono ?_); rintro e w9 ⟨mx, rfl, -, -, hb⟩; clear c0 c1 c2; replace KB := Lib.hid (blk_below KB.out hb); (try replace HX := Lib.hid (HX.out.below hb)); (try replace HYb := Lib.hid (HYb.out.below hb)); replace HB := Lib.hid (HB.out.trans (hb.mono HB.out.size)); (obtain ⟨c0, -⟩ := Hp.blk_cell KB.out 0 rfl); (obtain ⟨c1, -⟩ := Hp.blk_cell KB.out 1 rfl); (obtain ⟨c2, -⟩ := Hp.blk_cell KB.out 2 rfl); clear hb))
      | (go_at_call 12; ((with_reducible refine (newShade_yes _ P' T' R' t ref _ HSt.out HS0.out _ HBa.out (Int.natCast_nonneg _) HZ.out HRf.out HRg.out).mono ?_); rintro e w9 ⟨my, mk, pu, rfl, -, -, hb⟩; clear c0 c1 c2; replace KB := Lib.hid (blk_below KB.out hb); (try replace HX := Lib.hid (HX.out.below hb)); (try replace HYb := Lib.hid (HYb.out.below hb)); replace HB := Lib.hid (HB.out.trans (hb.mono HB.out.size)); (obtain ⟨c0, -⟩ := Hp.blk_cell KB.out 0 rfl); (obtain ⟨c1, -⟩ := Hp.blk_cell KB.out 1 rfl); (obtain ⟨c2, -⟩ := Hp.blk_cell KB.out 2 rfl); clear hb)))
  try simp only [List.append_eq, List.append, List.cons_append, List.nil_append]
  go_upto_region 10 with (first
      | (go_at_call 11; ((with_reducible refine (windrowlaw08_plan.calls P' T' R' P' T' R' _ rfl).mono ?_); rintro e w9 ⟨rfl, hb⟩; clear c0 c1 c2; replace KB := Lib.hid (blk_below KB.out hb); (try replace HX := Lib.hid (HX.out.below hb)); (try replace HYb := Lib.hid (HYb.out.below hb)); replace HB := Lib.hid (HB.out.trans (hb.mono HB.out.size)); (obtain ⟨c0, -⟩ := Hp.blk_cell KB.out 0 rfl); (obtain ⟨c1, -⟩ := Hp.blk_cell KB.out 1 rfl); (obtain ⟨c2, -⟩ := Hp.blk_cell KB.out 2 rfl); clear hb))
      | (go_at_call 13; ((with_reducible refine (shaded _).mono ?_); rintro e w9 ⟨rfl, hb⟩; clear c0 c1 c2; replace KB := Lib.hid (blk_below KB.out hb); (try replace HX := Lib.hid (HX.out.below hb)); (try replace HYb := Lib.hid (HYb.out.below hb)); replace HB := Lib.hid (HB.out.trans (hb.mono HB.out.size)); (obtain ⟨c0, -⟩ := Hp.blk_cell KB.out 0 rfl); (obtain ⟨c1, -⟩ := Hp.blk_cell KB.out 1 rfl); (obtain ⟨c2, -⟩ := Hp.blk_cell KB.out 2 rfl); clear hb))
      | (go_at_call 14; ((with_reducible refine (mark_step_nil _ _).mono ?_); rintro e w9 ⟨rfl, hw⟩; obtain rfl := hw.symm))
      | (go_at_call 15; ((with_reducible refine (mark_over_nil _).mono ?_); rintro e w9 ⟨rfl, hw⟩; obtain rfl := hw.symm))
      | (go_at_call 16; ((with_reducible refine (mark_fresh_nil _).mono ?_); rintro e w9 ⟨rfl, hw⟩; obtain rfl := hw.symm))
      | (go_at_call 17; ((with_reducible refine (shade_step_nil _ _).mono ?_); rintro e w9 ⟨rfl, hw⟩; obtain rfl := hw.symm))
      | (go_at_call 18; ((with_reducible refine (shade_over_nil _).mono ?_); rintro e w9 ⟨rfl, hw⟩; obtain rfl := hw.symm))
      | (go_at_call 19; ((with_reducible refine (shade_fresh_nil _).mono ?_); rintro e w9 ⟨rfl, hw⟩; obtain rfl := hw.symm))
      | (go_at_call 20; ((with_reducible refine (shade_lost_nil _).mono ?_); rintro e w9 ⟨rfl, hw⟩; obtain rfl := hw.symm))
      | (go_at_call 21; ((with_reducible refine (shade_held_nil _).mono ?_); rintro e w9 ⟨rfl, hw⟩; obtain rfl := hw.symm))
      | (go_at_call 22; ((with_reducible refine (marked_nil _ P' T' R' ref HRf.out pg b q HPl.out Hb0.out HMk.out).mono ?_); rintro e w9 ⟨rfl, hb⟩; clear c0 c1 c2; replace KB := Lib.hid (blk_below KB.out hb); (try replace HX := Lib.hid (HX.out.below hb)); (try replace HYb := Lib.hid (HYb.out.below hb)); replace HB := Lib.hid (HB.out.trans (hb.mono HB.out.size)); (obtain ⟨c0, -⟩ := Hp.blk_cell KB.out 0 rfl); (obtain ⟨c1, -⟩ := Hp.blk_cell KB.out 1 rfl); (obtain ⟨c2, -⟩ := Hp.blk_cell KB.out 2 rfl); clear hb)))
  try simp only [List.append_eq, List.append, List.cons_append, List.nil_append]
  go_upto_region 12 with (fail)
  try simp only [List.append_eq, List.append, List.cons_append, List.nil_append]
  go_wp2_with (first
      | (go_at_call 15; ((with_reducible refine (mark_over_nil _).mono ?_); rintro e w9 ⟨rfl, hw⟩; obtain rfl := hw.symm))
      | (go_at_call 18; ((with_reducible refine (shade_over_nil _).mono ?_); rintro e w9 ⟨rfl, hw⟩; obtain rfl := hw.symm)))
  go_ret
  exact ⟨rfl, HB.out⟩

set_option maxHeartbeats 4000000 in
set_option maxRecDepth 100000 in
theorem snils_yn (P T R t ref : Int) (w : World) {P' T' R' : Nat} (hr : Lay.right P' T' R') (eP : P = P') (eT : T = T') (eR : R = R') (h0 : 0 ≤ t) (h1 : t < T) (hz : ref ≠ 0) (hw : 0 ≤ ref) (hf : ¬ ((Lay.bs P' T' R' : Int) ≤ ref ∧ ref < Lay.cl P' T' R')) :
    Calls Try.prog 3 #[.agg #[.int .i64 P, .int .i64 T, .int .i64 R], .int .i64 t, .int .u64 ref] w fun e w' => e = .returned (.bool true) ∧ Below w.heap.size w w' := by
  subst eP eT eR
  obtain ⟨K, hK⟩ := Lay.draw_ev hr
  have HDr : Hid (windrowref06_Draw.f K P' T' R' = some ((P' : Int), (T' : Int), (R' : Int), ((Lay.bs P' T' R' : Nat) : Int), ((Lay.tb T' R' : Nat) : Int), ((Lay.cl P' T' R' : Nat) : Int))) := Lib.hid (hK K (Nat.le_refl _))
  clear hK
  have HR6 := Lib.hid (Lay.right_true hr)
  have hba := Lay.p_base hr
  have hst : layout_Plan_Status.f P' T' R' t = some (16 + t * (5 + R') + 0) := by rw [Lay.p_status hr, if_pos ⟨h0, h1⟩]
  have hg := sn_ring hst (sn_pos h0)
  have hs0 := sn_pos (R := R') h0
  have z1 : (ref == 0) = false := by simp [hz]
  have z2 : (ref != 0) = true := by simp [hz]
  have hrf : layout_Plan_Ref.f P' T' R' ref = some false := by rw [Lay.p_ref hr hw, decide_eq_false hf]
  have HR8 := Lib.hid (sn_ref8_no (a := (P' : Int)) (b := (T' : Int)) (c := (R' : Int)) (d := ((Lay.tb T' R' : Nat) : Int)) hr hw hf)
  have HBa := Lib.hid hba
  have HSt := Lib.hid hst
  have HRf := Lib.hid hrf
  have HZ := Lib.hid hz
  have HS0 := Lib.hid hs0
  have HRg := Lib.hid hg
  have t0 : decide (0 ≤ t) = true := decide_eq_true h0
  have t1 : decide (t < (T' : Int)) = true := decide_eq_true h1
  clear hba hst hrf hr hz hs0 hg h0 h1 hw hf
  have KB := Lib.hid (Hp.blk_new w (.cells #[.int .i64 P', .int .i64 T', .int .i64 R'] 23))
  have HB := Lib.hid ((Below.refl w.heap.size w).alloc (Nat.le_refl _) (.cells #[.int .i64 P', .int .i64 T', .int .i64 R'] 23))
  obtain ⟨c0, -⟩ := Hp.blk_cell KB.out 0 rfl
  obtain ⟨c1, -⟩ := Hp.blk_cell KB.out 1 rfl
  obtain ⟨c2, -⟩ := Hp.blk_cell KB.out 2 rfl
  go_enter Try.func3, Try.ntmps3
  go_upto_region 8 with (first
      | (go_at_call 7; ((with_reducible refine (windrowref06_Right.calls P' T' R' _ _ HR6.out).mono ?_); rintro e w9 ⟨rfl, hb⟩; clear c0 c1 c2; replace KB := Lib.hid (blk_below KB.out hb); (try replace HX := Lib.hid (HX.out.below hb)); (try replace HYb := Lib.hid (HYb.out.below hb)); replace HB := Lib.hid (HB.out.trans (hb.mono HB.out.size)); (obtain ⟨c0, -⟩ := Hp.blk_cell KB.out 0 rfl); (obtain ⟨c1, -⟩ := Hp.blk_cell KB.out 1 rfl); (obtain ⟨c2, -⟩ := Hp.blk_cell KB.out 2 rfl); clear hb))
      | (go_at_call 11; ((with_reducible refine (windrowlaw08_plan.calls P' T' R' P' T' R' _ rfl).mono ?_); rintro e w9 ⟨rfl, hb⟩; clear c0 c1 c2; replace KB := Lib.hid (blk_below KB.out hb); (try replace HX := Lib.hid (HX.out.below hb)); (try replace HYb := Lib.hid (HYb.out.below hb)); replace HB := Lib.hid (HB.out.trans (hb.mono HB.out.size)); (obtain ⟨c0, -⟩ := Hp.blk_cell KB.out 0 rfl); (obtain ⟨c1, -⟩ := Hp.blk_cell KB.out 1 rfl); (obtain ⟨c2, -⟩ := Hp.blk_cell KB.out 2 rfl); clear hb))
      | (go_at_call 9; ((with_reducible refine (windrowref06_Draw.calls K P' T' R' _ _ _ _ _ _ _ HDr.out).mono ?_); rintro e w9 ⟨rfl, hb⟩; clear c0 c1 c2; replace KB := Lib.hid (blk_below KB.out hb); (try replace HX := Lib.hid (HX.out.below hb)); (try replace HYb := Lib.hid (HYb.out.below hb)); replace HB := Lib.hid (HB.out.trans (hb.mono HB.out.size)); (obtain ⟨c0, -⟩ := Hp.blk_cell KB.out 0 rfl); (obtain ⟨c1, -⟩ := Hp.blk_cell KB.out 1 rfl); (obtain ⟨c2, -⟩ := Hp.blk_cell KB.out 2 rfl); clear hb))
      | (go_at_call 8; ((with_reducible refine (windrowref08_Ref.calls _ _ _ _ _ _ ref _ _ HR8.out).mono ?_); rintro e w9 ⟨rfl, hb⟩; clear c0 c1 c2; replace KB := Lib.hid (blk_below KB.out hb); (try replace HX := Lib.hid (HX.out.below hb)); (try replace HYb := Lib.hid (HYb.out.below hb)); replace HB := Lib.hid (HB.out.trans (hb.mono HB.out.size)); (obtain ⟨c0, -⟩ := Hp.blk_cell KB.out 0 rfl); (obtain ⟨c1, -⟩ := Hp.blk_cell KB.out 1 rfl); (obtain ⟨c2, -⟩ := Hp.blk_cell KB.out 2 rfl); clear hb))
      | (go_at_call 10; ((with_reducible refine (newMark_addr _ P' T' R' ref _ HBa.out (Int.natCast_nonneg _) HZ.out HRf.out).mono ?_); rintro e w9 ⟨rfl, hb⟩; clear c0 c1 c2; replace KB := Lib.hid (blk_below KB.out hb); (try replace HX := Lib.hid (HX.out.below hb)); (try replace HYb := Lib.hid (HYb.out.below hb)); replace HB := Lib.hid (HB.out.trans (hb.mono HB.out.size)); (obtain ⟨c0, -⟩ := Hp.blk_cell KB.out 0 rfl); (obtain ⟨c1, -⟩ := Hp.blk_cell KB.out 1 rfl); (obtain ⟨c2, -⟩ := Hp.blk_cell KB.out 2 rfl); clear hb))
      | (go_at_call 12; ((with_reducible refine (newShade_addr _ P' T' R' t ref _ HSt.out HS0.out _ HBa.out (Int.natCast_nonneg _) HZ.out HRf.out).mono ?_); rintro e w9 ⟨rfl, hb⟩; clear c0 c1 c2; replace KB := Lib.hid (blk_below KB.out hb); (try replace HX := Lib.hid (HX.out.below hb)); (try replace HYb := Lib.hid (HYb.out.below hb)); replace HB := Lib.hid (HB.out.trans (hb.mono HB.out.size)); (obtain ⟨c0, -⟩ := Hp.blk_cell KB.out 0 rfl); (obtain ⟨c1, -⟩ := Hp.blk_cell KB.out 1 rfl); (obtain ⟨c2, -⟩ := Hp.blk_cell KB.out 2 rfl); clear hb)))
  try simp only [List.append_eq, List.append, List.cons_append, List.nil_append]
  go_upto_region 10 with (first
      | (go_at_call 11; ((with_reducible refine (windrowlaw08_plan.calls P' T' R' P' T' R' _ rfl).mono ?_); rintro e w9 ⟨rfl, hb⟩; clear c0 c1 c2; replace KB := Lib.hid (blk_below KB.out hb); (try replace HX := Lib.hid (HX.out.below hb)); (try replace HYb := Lib.hid (HYb.out.below hb)); replace HB := Lib.hid (HB.out.trans (hb.mono HB.out.size)); (obtain ⟨c0, -⟩ := Hp.blk_cell KB.out 0 rfl); (obtain ⟨c1, -⟩ := Hp.blk_cell KB.out 1 rfl); (obtain ⟨c2, -⟩ := Hp.blk_cell KB.out 2 rfl); clear hb))
      | (go_at_call 13; ((with_reducible refine (shaded _).mono ?_); rintro e w9 ⟨rfl, hb⟩; clear c0 c1 c2; replace KB := Lib.hid (blk_below KB.out hb); (try replace HX := Lib.hid (HX.out.below hb)); (try replace HYb := Lib.hid (HYb.out.below hb)); replace HB := Lib.hid (HB.out.trans (hb.mono HB.out.size)); (obtain ⟨c0, -⟩ := Hp.blk_cell KB.out 0 rfl); (obtain ⟨c1, -⟩ := Hp.blk_cell KB.out 1 rfl); (obtain ⟨c2, -⟩ := Hp.blk_cell KB.out 2 rfl); clear hb))
      | (go_at_call 14; ((with_reducible refine (mark_step_nil _ _).mono ?_); rintro e w9 ⟨rfl, hw⟩; obtain rfl := hw.symm))
      | (go_at_call 15; ((with_reducible refine (mark_over_nil _).mono ?_); rintro e w9 ⟨rfl, hw⟩; obtain rfl := hw.symm))
      | (go_at_call 16; ((with_reducible refine (mark_fresh_nil _).mono ?_); rintro e w9 ⟨rfl, hw⟩; obtain rfl := hw.symm))
      | (go_at_call 17; ((with_reducible refine (shade_step_nil _ _).mono ?_); rintro e w9 ⟨rfl, hw⟩; obtain rfl := hw.symm))
      | (go_at_call 18; ((with_reducible refine (shade_over_nil _).mono ?_); rintro e w9 ⟨rfl, hw⟩; obtain rfl := hw.symm))
      | (go_at_call 19; ((with_reducible refine (shade_fresh_nil _).mono ?_); rintro e w9 ⟨rfl, hw⟩; obtain rfl := hw.symm))
      | (go_at_call 20; ((with_reducible refine (shade_lost_nil _).mono ?_); rintro e w9 ⟨rfl, hw⟩; obtain rfl := hw.symm))
      | (go_at_call 21; ((with_reducible refine (shade_held_nil _).mono ?_); rintro e w9 ⟨rfl, hw⟩; obtain rfl := hw.symm))
      | (go_at_call 22; ((with_reducible refine (marked_no _ (.pointer none) P' T' R' ref HRf.out).mono ?_); rintro e w9 ⟨rfl, hb⟩; clear c0 c1 c2; replace KB := Lib.hid (blk_below KB.out hb); (try replace HX := Lib.hid (HX.out.below hb)); (try replace HYb := Lib.hid (HYb.out.below hb)); replace HB := Lib.hid (HB.out.trans (hb.mono HB.out.size)); (obtain ⟨c0, -⟩ := Hp.blk_cell KB.out 0 rfl); (obtain ⟨c1, -⟩ := Hp.blk_cell KB.out 1 rfl); (obtain ⟨c2, -⟩ := Hp.blk_cell KB.out 2 rfl); clear hb)))
  try simp only [List.append_eq, List.append, List.cons_append, List.nil_append]
  go_upto_region 12 with (fail)
  try simp only [List.append_eq, List.append, List.cons_append, List.nil_append]
  go_wp2_with (first
      | (go_at_call 15; ((with_reducible refine (mark_over_nil _).mono ?_); rintro e w9 ⟨rfl, hw⟩; obtain rfl := hw.symm))
      | (go_at_call 18; ((with_reducible refine (shade_over_nil _).mono ?_); rintro e w9 ⟨rfl, hw⟩; obtain rfl := hw.symm)))
  go_ret
  exact ⟨rfl, HB.out⟩

set_option maxHeartbeats 4000000 in
set_option maxRecDepth 100000 in
theorem snils_lz (P T R t : Int) (w : World) {P' T' R' : Nat} (hr : Lay.right P' T' R') (eP : P = P') (eT : T = T') (eR : R = R') (h0 : t < 0) :
    Calls Try.prog 3 #[.agg #[.int .i64 P, .int .i64 T, .int .i64 R], .int .i64 t, .int .u64 0] w fun e w' => e = .returned (.bool true) ∧ Below w.heap.size w w' := by
  subst eP eT eR
  obtain ⟨K, hK⟩ := Lay.draw_ev hr
  have HDr : Hid (windrowref06_Draw.f K P' T' R' = some ((P' : Int), (T' : Int), (R' : Int), ((Lay.bs P' T' R' : Nat) : Int), ((Lay.tb T' R' : Nat) : Int), ((Lay.cl P' T' R' : Nat) : Int))) := Lib.hid (hK K (Nat.le_refl _))
  clear hK
  have HR6 := Lib.hid (Lay.right_true hr)
  have hba := Lay.p_base hr
  have hst : layout_Plan_Status.f P' T' R' t = some (-1) := by rw [Lay.p_status hr, if_neg (fun z => absurd z.1 (by omega))]
  have hrf : layout_Plan_Ref.f P' T' R' 0 = some false := by rw [Lay.p_ref hr (Int.le_refl 0), decide_eq_false (fun z => absurd z.1 (sn_bs0 hr))]
  have HBa := Lib.hid hba
  have HSt := Lib.hid hst
  have HRf := Lib.hid hrf
  have t0 : decide (0 ≤ t) = false := decide_eq_false (by omega)
  clear hba hst hrf hr h0
  have KB := Lib.hid (Hp.blk_new w (.cells #[.int .i64 P', .int .i64 T', .int .i64 R'] 23))
  have HB := Lib.hid ((Below.refl w.heap.size w).alloc (Nat.le_refl _) (.cells #[.int .i64 P', .int .i64 T', .int .i64 R'] 23))
  obtain ⟨c0, -⟩ := Hp.blk_cell KB.out 0 rfl
  obtain ⟨c1, -⟩ := Hp.blk_cell KB.out 1 rfl
  obtain ⟨c2, -⟩ := Hp.blk_cell KB.out 2 rfl
  go_enter Try.func3, Try.ntmps3
  go_upto_region 8 with (first
      | (go_at_call 7; ((with_reducible refine (windrowref06_Right.calls P' T' R' _ _ HR6.out).mono ?_); rintro e w9 ⟨rfl, hb⟩; clear c0 c1 c2; replace KB := Lib.hid (blk_below KB.out hb); (try replace HX := Lib.hid (HX.out.below hb)); (try replace HYb := Lib.hid (HYb.out.below hb)); replace HB := Lib.hid (HB.out.trans (hb.mono HB.out.size)); (obtain ⟨c0, -⟩ := Hp.blk_cell KB.out 0 rfl); (obtain ⟨c1, -⟩ := Hp.blk_cell KB.out 1 rfl); (obtain ⟨c2, -⟩ := Hp.blk_cell KB.out 2 rfl); clear hb))
      | (go_at_call 11; ((with_reducible refine (windrowlaw08_plan.calls P' T' R' P' T' R' _ rfl).mono ?_); rintro e w9 ⟨rfl, hb⟩; clear c0 c1 c2; replace KB := Lib.hid (blk_below KB.out hb); (try replace HX := Lib.hid (HX.out.below hb)); (try replace HYb := Lib.hid (HYb.out.below hb)); replace HB := Lib.hid (HB.out.trans (hb.mono HB.out.size)); (obtain ⟨c0, -⟩ := Hp.blk_cell KB.out 0 rfl); (obtain ⟨c1, -⟩ := Hp.blk_cell KB.out 1 rfl); (obtain ⟨c2, -⟩ := Hp.blk_cell KB.out 2 rfl); clear hb))
      | (go_at_call 10; ((with_reducible refine (newMark_zero _ P' T' R' 0 _ HBa.out (Int.natCast_nonneg _) rfl).mono ?_); rintro e w9 ⟨mx, rfl, -, hX, hb⟩; clear c0 c1 c2; replace KB := Lib.hid (blk_below KB.out hb); (try replace HX := Lib.hid (HX.out.below hb)); (try replace HYb := Lib.hid (HYb.out.below hb)); replace HB := Lib.hid (HB.out.trans (hb.mono HB.out.size)); (obtain ⟨c0, -⟩ := Hp.blk_cell KB.out 0 rfl); (obtain ⟨c1, -⟩ := Hp.blk_cell KB.out 1 rfl); (obtain ⟨c2, -⟩ := Hp.blk_cell KB.out 2 rfl); clear hb; have HX := Lib.hid hX; clear hX))
      | (go_at_call 12; ((with_reducible refine (newShade_plan _ P' T' R' t 0 _ HSt.out (by decide)).mono ?_); rintro e w9 ⟨rfl, hb⟩; clear c0 c1 c2; replace KB := Lib.hid (blk_below KB.out hb); (try replace HX := Lib.hid (HX.out.below hb)); (try replace HYb := Lib.hid (HYb.out.below hb)); replace HB := Lib.hid (HB.out.trans (hb.mono HB.out.size)); (obtain ⟨c0, -⟩ := Hp.blk_cell KB.out 0 rfl); (obtain ⟨c1, -⟩ := Hp.blk_cell KB.out 1 rfl); (obtain ⟨c2, -⟩ := Hp.blk_cell KB.out 2 rfl); clear hb)))
  try simp only [List.append_eq, List.append, List.cons_append, List.nil_append]
  go_upto_region 10 with (first
      | (go_at_call 11; ((with_reducible refine (windrowlaw08_plan.calls P' T' R' P' T' R' _ rfl).mono ?_); rintro e w9 ⟨rfl, hb⟩; clear c0 c1 c2; replace KB := Lib.hid (blk_below KB.out hb); (try replace HX := Lib.hid (HX.out.below hb)); (try replace HYb := Lib.hid (HYb.out.below hb)); replace HB := Lib.hid (HB.out.trans (hb.mono HB.out.size)); (obtain ⟨c0, -⟩ := Hp.blk_cell KB.out 0 rfl); (obtain ⟨c1, -⟩ := Hp.blk_cell KB.out 1 rfl); (obtain ⟨c2, -⟩ := Hp.blk_cell KB.out 2 rfl); clear hb))
      | (go_at_call 13; ((with_reducible refine (shaded _).mono ?_); rintro e w9 ⟨rfl, hb⟩; clear c0 c1 c2; replace KB := Lib.hid (blk_below KB.out hb); (try replace HX := Lib.hid (HX.out.below hb)); (try replace HYb := Lib.hid (HYb.out.below hb)); replace HB := Lib.hid (HB.out.trans (hb.mono HB.out.size)); (obtain ⟨c0, -⟩ := Hp.blk_cell KB.out 0 rfl); (obtain ⟨c1, -⟩ := Hp.blk_cell KB.out 1 rfl); (obtain ⟨c2, -⟩ := Hp.blk_cell KB.out 2 rfl); clear hb))
      | (go_at_call 14; ((with_reducible refine (mark_step_nil _ _).mono ?_); rintro e w9 ⟨rfl, hw⟩; obtain rfl := hw.symm))
      | (go_at_call 15; ((with_reducible refine (mark_over_nil _).mono ?_); rintro e w9 ⟨rfl, hw⟩; obtain rfl := hw.symm))
      | (go_at_call 16; ((with_reducible refine (mark_fresh_nil _).mono ?_); rintro e w9 ⟨rfl, hw⟩; obtain rfl := hw.symm))
      | (go_at_call 17; ((with_reducible refine (shade_step_nil _ _).mono ?_); rintro e w9 ⟨rfl, hw⟩; obtain rfl := hw.symm))
      | (go_at_call 18; ((with_reducible refine (shade_over_nil _).mono ?_); rintro e w9 ⟨rfl, hw⟩; obtain rfl := hw.symm))
      | (go_at_call 19; ((with_reducible refine (shade_fresh_nil _).mono ?_); rintro e w9 ⟨rfl, hw⟩; obtain rfl := hw.symm))
      | (go_at_call 20; ((with_reducible refine (shade_lost_nil _).mono ?_); rintro e w9 ⟨rfl, hw⟩; obtain rfl := hw.symm))
      | (go_at_call 21; ((with_reducible refine (shade_held_nil _).mono ?_); rintro e w9 ⟨rfl, hw⟩; obtain rfl := hw.symm))
      | (go_at_call 22; ((with_reducible refine (marked_no _ (.pointer none) P' T' R' 0 HRf.out).mono ?_); rintro e w9 ⟨rfl, hb⟩; clear c0 c1 c2; replace KB := Lib.hid (blk_below KB.out hb); (try replace HX := Lib.hid (HX.out.below hb)); (try replace HYb := Lib.hid (HYb.out.below hb)); replace HB := Lib.hid (HB.out.trans (hb.mono HB.out.size)); (obtain ⟨c0, -⟩ := Hp.blk_cell KB.out 0 rfl); (obtain ⟨c1, -⟩ := Hp.blk_cell KB.out 1 rfl); (obtain ⟨c2, -⟩ := Hp.blk_cell KB.out 2 rfl); clear hb))
      | (go_at_call 15; ((have hm := mark_over _ mx _ HX.out); (with_reducible refine hm.mono ?_); clear hm; rintro e w9 ⟨rfl, hw⟩; obtain rfl := hw.symm)))
  try simp only [List.append_eq, List.append, List.cons_append, List.nil_append]
  go_upto_region 12 with (fail)
  try simp only [List.append_eq, List.append, List.cons_append, List.nil_append]
  go_wp2_with (first
      | (go_at_call 15; ((with_reducible refine (mark_over_nil _).mono ?_); rintro e w9 ⟨rfl, hw⟩; obtain rfl := hw.symm))
      | (go_at_call 18; ((with_reducible refine (shade_over_nil _).mono ?_); rintro e w9 ⟨rfl, hw⟩; obtain rfl := hw.symm))
      | (go_at_call 15; ((have hm := mark_over _ mx _ HX.out); (with_reducible refine hm.mono ?_); clear hm; rintro e w9 ⟨rfl, hw⟩; obtain rfl := hw.symm)))
  go_ret
  exact ⟨rfl, HB.out⟩

set_option maxHeartbeats 4000000 in
set_option maxRecDepth 100000 in
theorem snils_ly (P T R t ref : Int) (w : World) {P' T' R' : Nat} (hr : Lay.right P' T' R') (eP : P = P') (eT : T = T') (eR : R = R') (h0 : t < 0) (hz : ref ≠ 0) (hw : 0 ≤ ref) (hf : ((Lay.bs P' T' R' : Int) ≤ ref ∧ ref < Lay.cl P' T' R')) :
    Calls Try.prog 3 #[.agg #[.int .i64 P, .int .i64 T, .int .i64 R], .int .i64 t, .int .u64 ref] w fun e w' => e = .returned (.bool true) ∧ Below w.heap.size w w' := by
  subst eP eT eR
  obtain ⟨K, hK⟩ := Lay.draw_ev hr
  have HDr : Hid (windrowref06_Draw.f K P' T' R' = some ((P' : Int), (T' : Int), (R' : Int), ((Lay.bs P' T' R' : Nat) : Int), ((Lay.tb T' R' : Nat) : Int), ((Lay.cl P' T' R' : Nat) : Int))) := Lib.hid (hK K (Nat.le_refl _))
  clear hK
  have HR6 := Lib.hid (Lay.right_true hr)
  have hba := Lay.p_base hr
  have hst : layout_Plan_Status.f P' T' R' t = some (-1) := by rw [Lay.p_status hr, if_neg (fun z => absurd z.1 (by omega))]
  have z1 : (ref == 0) = false := by simp [hz]
  have z2 : (ref != 0) = true := by simp [hz]
  have hrf : layout_Plan_Ref.f P' T' R' ref = some true := by rw [Lay.p_ref hr hw, decide_eq_true hf]
  have HR8 := Lib.hid (sn_ref8_yes (a := (P' : Int)) (b := (T' : Int)) (c := (R' : Int)) (d := ((Lay.tb T' R' : Nat) : Int)) hr hw hf)
  obtain ⟨pg, b, q, hpl, hb0, hmk⟩ := sn_place hr hw hf
  have HBa := Lib.hid hba
  have HSt := Lib.hid hst
  have HRf := Lib.hid hrf
  have HZ := Lib.hid hz
  have HPl := Lib.hid hpl
  have HMk := Lib.hid hmk
  have Hb0 := Lib.hid hb0
  have t0 : decide (0 ≤ t) = false := decide_eq_false (by omega)
  clear hba hst hrf hr hz h0 hw hf hpl hmk hb0
  have KB := Lib.hid (Hp.blk_new w (.cells #[.int .i64 P', .int .i64 T', .int .i64 R'] 23))
  have HB := Lib.hid ((Below.refl w.heap.size w).alloc (Nat.le_refl _) (.cells #[.int .i64 P', .int .i64 T', .int .i64 R'] 23))
  obtain ⟨c0, -⟩ := Hp.blk_cell KB.out 0 rfl
  obtain ⟨c1, -⟩ := Hp.blk_cell KB.out 1 rfl
  obtain ⟨c2, -⟩ := Hp.blk_cell KB.out 2 rfl
  go_enter Try.func3, Try.ntmps3
  go_upto_region 8 with (first
      | (go_at_call 7; ((with_reducible refine (windrowref06_Right.calls P' T' R' _ _ HR6.out).mono ?_); rintro e w9 ⟨rfl, hb⟩; clear c0 c1 c2; replace KB := Lib.hid (blk_below KB.out hb); (try replace HX := Lib.hid (HX.out.below hb)); (try replace HYb := Lib.hid (HYb.out.below hb)); replace HB := Lib.hid (HB.out.trans (hb.mono HB.out.size)); (obtain ⟨c0, -⟩ := Hp.blk_cell KB.out 0 rfl); (obtain ⟨c1, -⟩ := Hp.blk_cell KB.out 1 rfl); (obtain ⟨c2, -⟩ := Hp.blk_cell KB.out 2 rfl); clear hb))
      | (go_at_call 11; ((with_reducible refine (windrowlaw08_plan.calls P' T' R' P' T' R' _ rfl).mono ?_); rintro e w9 ⟨rfl, hb⟩; clear c0 c1 c2; replace KB := Lib.hid (blk_below KB.out hb); (try replace HX := Lib.hid (HX.out.below hb)); (try replace HYb := Lib.hid (HYb.out.below hb)); replace HB := Lib.hid (HB.out.trans (hb.mono HB.out.size)); (obtain ⟨c0, -⟩ := Hp.blk_cell KB.out 0 rfl); (obtain ⟨c1, -⟩ := Hp.blk_cell KB.out 1 rfl); (obtain ⟨c2, -⟩ := Hp.blk_cell KB.out 2 rfl); clear hb))
      | (go_at_call 9; ((with_reducible refine (windrowref06_Draw.calls K P' T' R' _ _ _ _ _ _ _ HDr.out).mono ?_); rintro e w9 ⟨rfl, hb⟩; clear c0 c1 c2; replace KB := Lib.hid (blk_below KB.out hb); (try replace HX := Lib.hid (HX.out.below hb)); (try replace HYb := Lib.hid (HYb.out.below hb)); replace HB := Lib.hid (HB.out.trans (hb.mono HB.out.size)); (obtain ⟨c0, -⟩ := Hp.blk_cell KB.out 0 rfl); (obtain ⟨c1, -⟩ := Hp.blk_cell KB.out 1 rfl); (obtain ⟨c2, -⟩ := Hp.blk_cell KB.out 2 rfl); clear hb))
      | (go_at_call 8; ((with_reducible refine (windrowref08_Ref.calls _ _ _ _ _ _ ref _ _ HR8.out).mono ?_); rintro e w9 ⟨rfl, hb⟩; clear c0 c1 c2; replace KB := Lib.hid (blk_below KB.out hb); (try replace HX := Lib.hid (HX.out.below hb)); (try replace HYb := Lib.hid (HYb.out.below hb)); replace HB := Lib.hid (HB.out.trans (hb.mono HB.out.size)); (obtain ⟨c0, -⟩ := Hp.blk_cell KB.out 0 rfl); (obtain ⟨c1, -⟩ := Hp.blk_cell KB.out 1 rfl); (obtain ⟨c2, -⟩ := Hp.blk_cell KB.out 2 rfl); clear hb))
      | (go_at_call 10; ((with_reducible refine (newMark_yes _ P' T' R' ref _ HBa.out (Int.natCast_nonneg _) HZ.out HRf.out).mono ?_); rintro e w9 ⟨mx, rfl, -, -, hb⟩; clear c0 c1 c2; replace KB := Lib.hid (blk_below KB.out hb); (try replace HX := Lib.hid (HX.out.below hb)); (try replace HYb := Lib.hid (HYb.out.below hb)); replace HB := Lib.hid (HB.out.trans (hb.mono HB.out.size)); (obtain ⟨c0, -⟩ := Hp.blk_cell KB.out 0 rfl); (obtain ⟨c1, -⟩ := Hp.blk_cell KB.out 1 rfl); (obtain ⟨c2, -⟩ := Hp.blk_cell KB.out 2 rfl); clear hb))
      | (go_at_call 12; ((with_reducible refine (newShade_plan _ P' T' R' t ref _ HSt.out (by decide)).mono ?_); rintro e w9 ⟨rfl, hb⟩; clear c0 c1 c2; replace KB := Lib.hid (blk_below KB.out hb); (try replace HX := Lib.hid (HX.out.below hb)); (try replace HYb := Lib.hid (HYb.out.below hb)); replace HB := Lib.hid (HB.out.trans (hb.mono HB.out.size)); (obtain ⟨c0, -⟩ := Hp.blk_cell KB.out 0 rfl); (obtain ⟨c1, -⟩ := Hp.blk_cell KB.out 1 rfl); (obtain ⟨c2, -⟩ := Hp.blk_cell KB.out 2 rfl); clear hb)))
  try simp only [List.append_eq, List.append, List.cons_append, List.nil_append]
  go_upto_region 10 with (first
      | (go_at_call 11; ((with_reducible refine (windrowlaw08_plan.calls P' T' R' P' T' R' _ rfl).mono ?_); rintro e w9 ⟨rfl, hb⟩; clear c0 c1 c2; replace KB := Lib.hid (blk_below KB.out hb); (try replace HX := Lib.hid (HX.out.below hb)); (try replace HYb := Lib.hid (HYb.out.below hb)); replace HB := Lib.hid (HB.out.trans (hb.mono HB.out.size)); (obtain ⟨c0, -⟩ := Hp.blk_cell KB.out 0 rfl); (obtain ⟨c1, -⟩ := Hp.blk_cell KB.out 1 rfl); (obtain ⟨c2, -⟩ := Hp.blk_cell KB.out 2 rfl); clear hb))
      | (go_at_call 13; ((with_reducible refine (shaded _).mono ?_); rintro e w9 ⟨rfl, hb⟩; clear c0 c1 c2; replace KB := Lib.hid (blk_below KB.out hb); (try replace HX := Lib.hid (HX.out.below hb)); (try replace HYb := Lib.hid (HYb.out.below hb)); replace HB := Lib.hid (HB.out.trans (hb.mono HB.out.size)); (obtain ⟨c0, -⟩ := Hp.blk_cell KB.out 0 rfl); (obtain ⟨c1, -⟩ := Hp.blk_cell KB.out 1 rfl); (obtain ⟨c2, -⟩ := Hp.blk_cell KB.out 2 rfl); clear hb))
      | (go_at_call 14; ((with_reducible refine (mark_step_nil _ _).mono ?_); rintro e w9 ⟨rfl, hw⟩; obtain rfl := hw.symm))
      | (go_at_call 15; ((with_reducible refine (mark_over_nil _).mono ?_); rintro e w9 ⟨rfl, hw⟩; obtain rfl := hw.symm))
      | (go_at_call 16; ((with_reducible refine (mark_fresh_nil _).mono ?_); rintro e w9 ⟨rfl, hw⟩; obtain rfl := hw.symm))
      | (go_at_call 17; ((with_reducible refine (shade_step_nil _ _).mono ?_); rintro e w9 ⟨rfl, hw⟩; obtain rfl := hw.symm))
      | (go_at_call 18; ((with_reducible refine (shade_over_nil _).mono ?_); rintro e w9 ⟨rfl, hw⟩; obtain rfl := hw.symm))
      | (go_at_call 19; ((with_reducible refine (shade_fresh_nil _).mono ?_); rintro e w9 ⟨rfl, hw⟩; obtain rfl := hw.symm))
      | (go_at_call 20; ((with_reducible refine (shade_lost_nil _).mono ?_); rintro e w9 ⟨rfl, hw⟩; obtain rfl := hw.symm))
      | (go_at_call 21; ((with_reducible refine (shade_held_nil _).mono ?_); rintro e w9 ⟨rfl, hw⟩; obtain rfl := hw.symm))
      | (go_at_call 22; ((with_reducible refine (marked_nil _ P' T' R' ref HRf.out pg b q HPl.out Hb0.out HMk.out).mono ?_); rintro e w9 ⟨rfl, hb⟩; clear c0 c1 c2; replace KB := Lib.hid (blk_below KB.out hb); (try replace HX := Lib.hid (HX.out.below hb)); (try replace HYb := Lib.hid (HYb.out.below hb)); replace HB := Lib.hid (HB.out.trans (hb.mono HB.out.size)); (obtain ⟨c0, -⟩ := Hp.blk_cell KB.out 0 rfl); (obtain ⟨c1, -⟩ := Hp.blk_cell KB.out 1 rfl); (obtain ⟨c2, -⟩ := Hp.blk_cell KB.out 2 rfl); clear hb)))
  try simp only [List.append_eq, List.append, List.cons_append, List.nil_append]
  go_upto_region 12 with (fail)
  try simp only [List.append_eq, List.append, List.cons_append, List.nil_append]
  go_wp2_with (first
      | (go_at_call 15; ((with_reducible refine (mark_over_nil _).mono ?_); rintro e w9 ⟨rfl, hw⟩; obtain rfl := hw.symm))
      | (go_at_call 18; ((with_reducible refine (shade_over_nil _).mono ?_); rintro e w9 ⟨rfl, hw⟩; obtain rfl := hw.symm)))
  go_ret
  exact ⟨rfl, HB.out⟩

set_option maxHeartbeats 4000000 in
set_option maxRecDepth 100000 in
theorem snils_ln (P T R t ref : Int) (w : World) {P' T' R' : Nat} (hr : Lay.right P' T' R') (eP : P = P') (eT : T = T') (eR : R = R') (h0 : t < 0) (hz : ref ≠ 0) (hw : 0 ≤ ref) (hf : ¬ ((Lay.bs P' T' R' : Int) ≤ ref ∧ ref < Lay.cl P' T' R')) :
    Calls Try.prog 3 #[.agg #[.int .i64 P, .int .i64 T, .int .i64 R], .int .i64 t, .int .u64 ref] w fun e w' => e = .returned (.bool true) ∧ Below w.heap.size w w' := by
  subst eP eT eR
  obtain ⟨K, hK⟩ := Lay.draw_ev hr
  have HDr : Hid (windrowref06_Draw.f K P' T' R' = some ((P' : Int), (T' : Int), (R' : Int), ((Lay.bs P' T' R' : Nat) : Int), ((Lay.tb T' R' : Nat) : Int), ((Lay.cl P' T' R' : Nat) : Int))) := Lib.hid (hK K (Nat.le_refl _))
  clear hK
  have HR6 := Lib.hid (Lay.right_true hr)
  have hba := Lay.p_base hr
  have hst : layout_Plan_Status.f P' T' R' t = some (-1) := by rw [Lay.p_status hr, if_neg (fun z => absurd z.1 (by omega))]
  have z1 : (ref == 0) = false := by simp [hz]
  have z2 : (ref != 0) = true := by simp [hz]
  have hrf : layout_Plan_Ref.f P' T' R' ref = some false := by rw [Lay.p_ref hr hw, decide_eq_false hf]
  have HR8 := Lib.hid (sn_ref8_no (a := (P' : Int)) (b := (T' : Int)) (c := (R' : Int)) (d := ((Lay.tb T' R' : Nat) : Int)) hr hw hf)
  have HBa := Lib.hid hba
  have HSt := Lib.hid hst
  have HRf := Lib.hid hrf
  have HZ := Lib.hid hz
  have t0 : decide (0 ≤ t) = false := decide_eq_false (by omega)
  clear hba hst hrf hr hz h0 hw hf
  have KB := Lib.hid (Hp.blk_new w (.cells #[.int .i64 P', .int .i64 T', .int .i64 R'] 23))
  have HB := Lib.hid ((Below.refl w.heap.size w).alloc (Nat.le_refl _) (.cells #[.int .i64 P', .int .i64 T', .int .i64 R'] 23))
  obtain ⟨c0, -⟩ := Hp.blk_cell KB.out 0 rfl
  obtain ⟨c1, -⟩ := Hp.blk_cell KB.out 1 rfl
  obtain ⟨c2, -⟩ := Hp.blk_cell KB.out 2 rfl
  go_enter Try.func3, Try.ntmps3
  go_upto_region 8 with (first
      | (go_at_call 7; ((with_reducible refine (windrowref06_Right.calls P' T' R' _ _ HR6.out).mono ?_); rintro e w9 ⟨rfl, hb⟩; clear c0 c1 c2; replace KB := Lib.hid (blk_below KB.out hb); (try replace HX := Lib.hid (HX.out.below hb)); (try replace HYb := Lib.hid (HYb.out.below hb)); replace HB := Lib.hid (HB.out.trans (hb.mono HB.out.size)); (obtain ⟨c0, -⟩ := Hp.blk_cell KB.out 0 rfl); (obtain ⟨c1, -⟩ := Hp.blk_cell KB.out 1 rfl); (obtain ⟨c2, -⟩ := Hp.blk_cell KB.out 2 rfl); clear hb))
      | (go_at_call 11; ((with_reducible refine (windrowlaw08_plan.calls P' T' R' P' T' R' _ rfl).mono ?_); rintro e w9 ⟨rfl, hb⟩; clear c0 c1 c2; replace KB := Lib.hid (blk_below KB.out hb); (try replace HX := Lib.hid (HX.out.below hb)); (try replace HYb := Lib.hid (HYb.out.below hb)); replace HB := Lib.hid (HB.out.trans (hb.mono HB.out.size)); (obtain ⟨c0, -⟩ := Hp.blk_cell KB.out 0 rfl); (obtain ⟨c1, -⟩ := Hp.blk_cell KB.out 1 rfl); (obtain ⟨c2, -⟩ := Hp.blk_cell KB.out 2 rfl); clear hb))
      | (go_at_call 9; ((with_reducible refine (windrowref06_Draw.calls K P' T' R' _ _ _ _ _ _ _ HDr.out).mono ?_); rintro e w9 ⟨rfl, hb⟩; clear c0 c1 c2; replace KB := Lib.hid (blk_below KB.out hb); (try replace HX := Lib.hid (HX.out.below hb)); (try replace HYb := Lib.hid (HYb.out.below hb)); replace HB := Lib.hid (HB.out.trans (hb.mono HB.out.size)); (obtain ⟨c0, -⟩ := Hp.blk_cell KB.out 0 rfl); (obtain ⟨c1, -⟩ := Hp.blk_cell KB.out 1 rfl); (obtain ⟨c2, -⟩ := Hp.blk_cell KB.out 2 rfl); clear hb))
      | (go_at_call 8; ((with_reducible refine (windrowref08_Ref.calls _ _ _ _ _ _ ref _ _ HR8.out).mono ?_); rintro e w9 ⟨rfl, hb⟩; clear c0 c1 c2; replace KB := Lib.hid (blk_below KB.out hb); (try replace HX := Lib.hid (HX.out.below hb)); (try replace HYb := Lib.hid (HYb.out.below hb)); replace HB := Lib.hid (HB.out.trans (hb.mono HB.out.size)); (obtain ⟨c0, -⟩ := Hp.blk_cell KB.out 0 rfl); (obtain ⟨c1, -⟩ := Hp.blk_cell KB.out 1 rfl); (obtain ⟨c2, -⟩ := Hp.blk_cell KB.out 2 rfl); clear hb))
      | (go_at_call 10; ((with_reducible refine (newMark_addr _ P' T' R' ref _ HBa.out (Int.natCast_nonneg _) HZ.out HRf.out).mono ?_); rintro e w9 ⟨rfl, hb⟩; clear c0 c1 c2; replace KB := Lib.hid (blk_below KB.out hb); (try replace HX := Lib.hid (HX.out.below hb)); (try replace HYb := Lib.hid (HYb.out.below hb)); replace HB := Lib.hid (HB.out.trans (hb.mono HB.out.size)); (obtain ⟨c0, -⟩ := Hp.blk_cell KB.out 0 rfl); (obtain ⟨c1, -⟩ := Hp.blk_cell KB.out 1 rfl); (obtain ⟨c2, -⟩ := Hp.blk_cell KB.out 2 rfl); clear hb))
      | (go_at_call 12; ((with_reducible refine (newShade_plan _ P' T' R' t ref _ HSt.out (by decide)).mono ?_); rintro e w9 ⟨rfl, hb⟩; clear c0 c1 c2; replace KB := Lib.hid (blk_below KB.out hb); (try replace HX := Lib.hid (HX.out.below hb)); (try replace HYb := Lib.hid (HYb.out.below hb)); replace HB := Lib.hid (HB.out.trans (hb.mono HB.out.size)); (obtain ⟨c0, -⟩ := Hp.blk_cell KB.out 0 rfl); (obtain ⟨c1, -⟩ := Hp.blk_cell KB.out 1 rfl); (obtain ⟨c2, -⟩ := Hp.blk_cell KB.out 2 rfl); clear hb)))
  try simp only [List.append_eq, List.append, List.cons_append, List.nil_append]
  go_upto_region 10 with (first
      | (go_at_call 11; ((with_reducible refine (windrowlaw08_plan.calls P' T' R' P' T' R' _ rfl).mono ?_); rintro e w9 ⟨rfl, hb⟩; clear c0 c1 c2; replace KB := Lib.hid (blk_below KB.out hb); (try replace HX := Lib.hid (HX.out.below hb)); (try replace HYb := Lib.hid (HYb.out.below hb)); replace HB := Lib.hid (HB.out.trans (hb.mono HB.out.size)); (obtain ⟨c0, -⟩ := Hp.blk_cell KB.out 0 rfl); (obtain ⟨c1, -⟩ := Hp.blk_cell KB.out 1 rfl); (obtain ⟨c2, -⟩ := Hp.blk_cell KB.out 2 rfl); clear hb))
      | (go_at_call 13; ((with_reducible refine (shaded _).mono ?_); rintro e w9 ⟨rfl, hb⟩; clear c0 c1 c2; replace KB := Lib.hid (blk_below KB.out hb); (try replace HX := Lib.hid (HX.out.below hb)); (try replace HYb := Lib.hid (HYb.out.below hb)); replace HB := Lib.hid (HB.out.trans (hb.mono HB.out.size)); (obtain ⟨c0, -⟩ := Hp.blk_cell KB.out 0 rfl); (obtain ⟨c1, -⟩ := Hp.blk_cell KB.out 1 rfl); (obtain ⟨c2, -⟩ := Hp.blk_cell KB.out 2 rfl); clear hb))
      | (go_at_call 14; ((with_reducible refine (mark_step_nil _ _).mono ?_); rintro e w9 ⟨rfl, hw⟩; obtain rfl := hw.symm))
      | (go_at_call 15; ((with_reducible refine (mark_over_nil _).mono ?_); rintro e w9 ⟨rfl, hw⟩; obtain rfl := hw.symm))
      | (go_at_call 16; ((with_reducible refine (mark_fresh_nil _).mono ?_); rintro e w9 ⟨rfl, hw⟩; obtain rfl := hw.symm))
      | (go_at_call 17; ((with_reducible refine (shade_step_nil _ _).mono ?_); rintro e w9 ⟨rfl, hw⟩; obtain rfl := hw.symm))
      | (go_at_call 18; ((with_reducible refine (shade_over_nil _).mono ?_); rintro e w9 ⟨rfl, hw⟩; obtain rfl := hw.symm))
      | (go_at_call 19; ((with_reducible refine (shade_fresh_nil _).mono ?_); rintro e w9 ⟨rfl, hw⟩; obtain rfl := hw.symm))
      | (go_at_call 20; ((with_reducible refine (shade_lost_nil _).mono ?_); rintro e w9 ⟨rfl, hw⟩; obtain rfl := hw.symm))
      | (go_at_call 21; ((with_reducible refine (shade_held_nil _).mono ?_); rintro e w9 ⟨rfl, hw⟩; obtain rfl := hw.symm))
      | (go_at_call 22; ((with_reducible refine (marked_no _ (.pointer none) P' T' R' ref HRf.out).mono ?_); rintro e w9 ⟨rfl, hb⟩; clear c0 c1 c2; replace KB := Lib.hid (blk_below KB.out hb); (try replace HX := Lib.hid (HX.out.below hb)); (try replace HYb := Lib.hid (HYb.out.below hb)); replace HB := Lib.hid (HB.out.trans (hb.mono HB.out.size)); (obtain ⟨c0, -⟩ := Hp.blk_cell KB.out 0 rfl); (obtain ⟨c1, -⟩ := Hp.blk_cell KB.out 1 rfl); (obtain ⟨c2, -⟩ := Hp.blk_cell KB.out 2 rfl); clear hb)))
  try simp only [List.append_eq, List.append, List.cons_append, List.nil_append]
  go_upto_region 12 with (fail)
  try simp only [List.append_eq, List.append, List.cons_append, List.nil_append]
  go_wp2_with (first
      | (go_at_call 15; ((with_reducible refine (mark_over_nil _).mono ?_); rintro e w9 ⟨rfl, hw⟩; obtain rfl := hw.symm))
      | (go_at_call 18; ((with_reducible refine (shade_over_nil _).mono ?_); rintro e w9 ⟨rfl, hw⟩; obtain rfl := hw.symm)))
  go_ret
  exact ⟨rfl, HB.out⟩

set_option maxHeartbeats 4000000 in
set_option maxRecDepth 100000 in
theorem snils_hz (P T R t : Int) (w : World) {P' T' R' : Nat} (hr : Lay.right P' T' R') (eP : P = P') (eT : T = T') (eR : R = R') (h0 : 0 ≤ t) (h1 : ¬ t < T) :
    Calls Try.prog 3 #[.agg #[.int .i64 P, .int .i64 T, .int .i64 R], .int .i64 t, .int .u64 0] w fun e w' => e = .returned (.bool true) ∧ Below w.heap.size w w' := by
  subst eP eT eR
  obtain ⟨K, hK⟩ := Lay.draw_ev hr
  have HDr : Hid (windrowref06_Draw.f K P' T' R' = some ((P' : Int), (T' : Int), (R' : Int), ((Lay.bs P' T' R' : Nat) : Int), ((Lay.tb T' R' : Nat) : Int), ((Lay.cl P' T' R' : Nat) : Int))) := Lib.hid (hK K (Nat.le_refl _))
  clear hK
  have HR6 := Lib.hid (Lay.right_true hr)
  have hba := Lay.p_base hr
  have hst : layout_Plan_Status.f P' T' R' t = some (-1) := by rw [Lay.p_status hr, if_neg (fun z => h1 z.2)]
  have hrf : layout_Plan_Ref.f P' T' R' 0 = some false := by rw [Lay.p_ref hr (Int.le_refl 0), decide_eq_false (fun z => absurd z.1 (sn_bs0 hr))]
  have HBa := Lib.hid hba
  have HSt := Lib.hid hst
  have HRf := Lib.hid hrf
  have t0 : decide (0 ≤ t) = true := decide_eq_true h0
  have t1 : decide (t < (T' : Int)) = false := decide_eq_false h1
  clear hba hst hrf hr h0 h1
  have KB := Lib.hid (Hp.blk_new w (.cells #[.int .i64 P', .int .i64 T', .int .i64 R'] 23))
  have HB := Lib.hid ((Below.refl w.heap.size w).alloc (Nat.le_refl _) (.cells #[.int .i64 P', .int .i64 T', .int .i64 R'] 23))
  obtain ⟨c0, -⟩ := Hp.blk_cell KB.out 0 rfl
  obtain ⟨c1, -⟩ := Hp.blk_cell KB.out 1 rfl
  obtain ⟨c2, -⟩ := Hp.blk_cell KB.out 2 rfl
  go_enter Try.func3, Try.ntmps3
  go_upto_region 8 with (first
      | (go_at_call 7; ((with_reducible refine (windrowref06_Right.calls P' T' R' _ _ HR6.out).mono ?_); rintro e w9 ⟨rfl, hb⟩; clear c0 c1 c2; replace KB := Lib.hid (blk_below KB.out hb); (try replace HX := Lib.hid (HX.out.below hb)); (try replace HYb := Lib.hid (HYb.out.below hb)); replace HB := Lib.hid (HB.out.trans (hb.mono HB.out.size)); (obtain ⟨c0, -⟩ := Hp.blk_cell KB.out 0 rfl); (obtain ⟨c1, -⟩ := Hp.blk_cell KB.out 1 rfl); (obtain ⟨c2, -⟩ := Hp.blk_cell KB.out 2 rfl); clear hb))
      | (go_at_call 11; ((with_reducible refine (windrowlaw08_plan.calls P' T' R' P' T' R' _ rfl).mono ?_); rintro e w9 ⟨rfl, hb⟩; clear c0 c1 c2; replace KB := Lib.hid (blk_below KB.out hb); (try replace HX := Lib.hid (HX.out.below hb)); (try replace HYb := Lib.hid (HYb.out.below hb)); replace HB := Lib.hid (HB.out.trans (hb.mono HB.out.size)); (obtain ⟨c0, -⟩ := Hp.blk_cell KB.out 0 rfl); (obtain ⟨c1, -⟩ := Hp.blk_cell KB.out 1 rfl); (obtain ⟨c2, -⟩ := Hp.blk_cell KB.out 2 rfl); clear hb))
      | (go_at_call 10; ((with_reducible refine (newMark_zero _ P' T' R' 0 _ HBa.out (Int.natCast_nonneg _) rfl).mono ?_); rintro e w9 ⟨mx, rfl, -, hX, hb⟩; clear c0 c1 c2; replace KB := Lib.hid (blk_below KB.out hb); (try replace HX := Lib.hid (HX.out.below hb)); (try replace HYb := Lib.hid (HYb.out.below hb)); replace HB := Lib.hid (HB.out.trans (hb.mono HB.out.size)); (obtain ⟨c0, -⟩ := Hp.blk_cell KB.out 0 rfl); (obtain ⟨c1, -⟩ := Hp.blk_cell KB.out 1 rfl); (obtain ⟨c2, -⟩ := Hp.blk_cell KB.out 2 rfl); clear hb; have HX := Lib.hid hX; clear hX))
      | (go_at_call 12; ((with_reducible refine (newShade_plan _ P' T' R' t 0 _ HSt.out (by decide)).mono ?_); rintro e w9 ⟨rfl, hb⟩; clear c0 c1 c2; replace KB := Lib.hid (blk_below KB.out hb); (try replace HX := Lib.hid (HX.out.below hb)); (try replace HYb := Lib.hid (HYb.out.below hb)); replace HB := Lib.hid (HB.out.trans (hb.mono HB.out.size)); (obtain ⟨c0, -⟩ := Hp.blk_cell KB.out 0 rfl); (obtain ⟨c1, -⟩ := Hp.blk_cell KB.out 1 rfl); (obtain ⟨c2, -⟩ := Hp.blk_cell KB.out 2 rfl); clear hb)))
  try simp only [List.append_eq, List.append, List.cons_append, List.nil_append]
  go_upto_region 10 with (first
      | (go_at_call 11; ((with_reducible refine (windrowlaw08_plan.calls P' T' R' P' T' R' _ rfl).mono ?_); rintro e w9 ⟨rfl, hb⟩; clear c0 c1 c2; replace KB := Lib.hid (blk_below KB.out hb); (try replace HX := Lib.hid (HX.out.below hb)); (try replace HYb := Lib.hid (HYb.out.below hb)); replace HB := Lib.hid (HB.out.trans (hb.mono HB.out.size)); (obtain ⟨c0, -⟩ := Hp.blk_cell KB.out 0 rfl); (obtain ⟨c1, -⟩ := Hp.blk_cell KB.out 1 rfl); (obtain ⟨c2, -⟩ := Hp.blk_cell KB.out 2 rfl); clear hb))
      | (go_at_call 13; ((with_reducible refine (shaded _).mono ?_); rintro e w9 ⟨rfl, hb⟩; clear c0 c1 c2; replace KB := Lib.hid (blk_below KB.out hb); (try replace HX := Lib.hid (HX.out.below hb)); (try replace HYb := Lib.hid (HYb.out.below hb)); replace HB := Lib.hid (HB.out.trans (hb.mono HB.out.size)); (obtain ⟨c0, -⟩ := Hp.blk_cell KB.out 0 rfl); (obtain ⟨c1, -⟩ := Hp.blk_cell KB.out 1 rfl); (obtain ⟨c2, -⟩ := Hp.blk_cell KB.out 2 rfl); clear hb))
      | (go_at_call 14; ((with_reducible refine (mark_step_nil _ _).mono ?_); rintro e w9 ⟨rfl, hw⟩; obtain rfl := hw.symm))
      | (go_at_call 15; ((with_reducible refine (mark_over_nil _).mono ?_); rintro e w9 ⟨rfl, hw⟩; obtain rfl := hw.symm))
      | (go_at_call 16; ((with_reducible refine (mark_fresh_nil _).mono ?_); rintro e w9 ⟨rfl, hw⟩; obtain rfl := hw.symm))
      | (go_at_call 17; ((with_reducible refine (shade_step_nil _ _).mono ?_); rintro e w9 ⟨rfl, hw⟩; obtain rfl := hw.symm))
      | (go_at_call 18; ((with_reducible refine (shade_over_nil _).mono ?_); rintro e w9 ⟨rfl, hw⟩; obtain rfl := hw.symm))
      | (go_at_call 19; ((with_reducible refine (shade_fresh_nil _).mono ?_); rintro e w9 ⟨rfl, hw⟩; obtain rfl := hw.symm))
      | (go_at_call 20; ((with_reducible refine (shade_lost_nil _).mono ?_); rintro e w9 ⟨rfl, hw⟩; obtain rfl := hw.symm))
      | (go_at_call 21; ((with_reducible refine (shade_held_nil _).mono ?_); rintro e w9 ⟨rfl, hw⟩; obtain rfl := hw.symm))
      | (go_at_call 22; ((with_reducible refine (marked_no _ (.pointer none) P' T' R' 0 HRf.out).mono ?_); rintro e w9 ⟨rfl, hb⟩; clear c0 c1 c2; replace KB := Lib.hid (blk_below KB.out hb); (try replace HX := Lib.hid (HX.out.below hb)); (try replace HYb := Lib.hid (HYb.out.below hb)); replace HB := Lib.hid (HB.out.trans (hb.mono HB.out.size)); (obtain ⟨c0, -⟩ := Hp.blk_cell KB.out 0 rfl); (obtain ⟨c1, -⟩ := Hp.blk_cell KB.out 1 rfl); (obtain ⟨c2, -⟩ := Hp.blk_cell KB.out 2 rfl); clear hb))
      | (go_at_call 15; ((have hm := mark_over _ mx _ HX.out); (with_reducible refine hm.mono ?_); clear hm; rintro e w9 ⟨rfl, hw⟩; obtain rfl := hw.symm)))
  try simp only [List.append_eq, List.append, List.cons_append, List.nil_append]
  go_upto_region 12 with (fail)
  try simp only [List.append_eq, List.append, List.cons_append, List.nil_append]
  go_wp2_with (first
      | (go_at_call 15; ((with_reducible refine (mark_over_nil _).mono ?_); rintro e w9 ⟨rfl, hw⟩; obtain rfl := hw.symm))
      | (go_at_call 18; ((with_reducible refine (shade_over_nil _).mono ?_); rintro e w9 ⟨rfl, hw⟩; obtain rfl := hw.symm))
      | (go_at_call 15; ((have hm := mark_over _ mx _ HX.out); (with_reducible refine hm.mono ?_); clear hm; rintro e w9 ⟨rfl, hw⟩; obtain rfl := hw.symm)))
  go_ret
  exact ⟨rfl, HB.out⟩

set_option maxHeartbeats 4000000 in
set_option maxRecDepth 100000 in
theorem snils_hy (P T R t ref : Int) (w : World) {P' T' R' : Nat} (hr : Lay.right P' T' R') (eP : P = P') (eT : T = T') (eR : R = R') (h0 : 0 ≤ t) (h1 : ¬ t < T) (hz : ref ≠ 0) (hw : 0 ≤ ref) (hf : ((Lay.bs P' T' R' : Int) ≤ ref ∧ ref < Lay.cl P' T' R')) :
    Calls Try.prog 3 #[.agg #[.int .i64 P, .int .i64 T, .int .i64 R], .int .i64 t, .int .u64 ref] w fun e w' => e = .returned (.bool true) ∧ Below w.heap.size w w' := by
  subst eP eT eR
  obtain ⟨K, hK⟩ := Lay.draw_ev hr
  have HDr : Hid (windrowref06_Draw.f K P' T' R' = some ((P' : Int), (T' : Int), (R' : Int), ((Lay.bs P' T' R' : Nat) : Int), ((Lay.tb T' R' : Nat) : Int), ((Lay.cl P' T' R' : Nat) : Int))) := Lib.hid (hK K (Nat.le_refl _))
  clear hK
  have HR6 := Lib.hid (Lay.right_true hr)
  have hba := Lay.p_base hr
  have hst : layout_Plan_Status.f P' T' R' t = some (-1) := by rw [Lay.p_status hr, if_neg (fun z => h1 z.2)]
  have z1 : (ref == 0) = false := by simp [hz]
  have z2 : (ref != 0) = true := by simp [hz]
  have hrf : layout_Plan_Ref.f P' T' R' ref = some true := by rw [Lay.p_ref hr hw, decide_eq_true hf]
  have HR8 := Lib.hid (sn_ref8_yes (a := (P' : Int)) (b := (T' : Int)) (c := (R' : Int)) (d := ((Lay.tb T' R' : Nat) : Int)) hr hw hf)
  obtain ⟨pg, b, q, hpl, hb0, hmk⟩ := sn_place hr hw hf
  have HBa := Lib.hid hba
  have HSt := Lib.hid hst
  have HRf := Lib.hid hrf
  have HZ := Lib.hid hz
  have HPl := Lib.hid hpl
  have HMk := Lib.hid hmk
  have Hb0 := Lib.hid hb0
  have t0 : decide (0 ≤ t) = true := decide_eq_true h0
  have t1 : decide (t < (T' : Int)) = false := decide_eq_false h1
  clear hba hst hrf hr hz h0 h1 hw hf hpl hmk hb0
  have KB := Lib.hid (Hp.blk_new w (.cells #[.int .i64 P', .int .i64 T', .int .i64 R'] 23))
  have HB := Lib.hid ((Below.refl w.heap.size w).alloc (Nat.le_refl _) (.cells #[.int .i64 P', .int .i64 T', .int .i64 R'] 23))
  obtain ⟨c0, -⟩ := Hp.blk_cell KB.out 0 rfl
  obtain ⟨c1, -⟩ := Hp.blk_cell KB.out 1 rfl
  obtain ⟨c2, -⟩ := Hp.blk_cell KB.out 2 rfl
  go_enter Try.func3, Try.ntmps3
  go_upto_region 8 with (first
      | (go_at_call 7; ((with_reducible refine (windrowref06_Right.calls P' T' R' _ _ HR6.out).mono ?_); rintro e w9 ⟨rfl, hb⟩; clear c0 c1 c2; replace KB := Lib.hid (blk_below KB.out hb); (try replace HX := Lib.hid (HX.out.below hb)); (try replace HYb := Lib.hid (HYb.out.below hb)); replace HB := Lib.hid (HB.out.trans (hb.mono HB.out.size)); (obtain ⟨c0, -⟩ := Hp.blk_cell KB.out 0 rfl); (obtain ⟨c1, -⟩ := Hp.blk_cell KB.out 1 rfl); (obtain ⟨c2, -⟩ := Hp.blk_cell KB.out 2 rfl); clear hb))
      | (go_at_call 11; ((with_reducible refine (windrowlaw08_plan.calls P' T' R' P' T' R' _ rfl).mono ?_); rintro e w9 ⟨rfl, hb⟩; clear c0 c1 c2; replace KB := Lib.hid (blk_below KB.out hb); (try replace HX := Lib.hid (HX.out.below hb)); (try replace HYb := Lib.hid (HYb.out.below hb)); replace HB := Lib.hid (HB.out.trans (hb.mono HB.out.size)); (obtain ⟨c0, -⟩ := Hp.blk_cell KB.out 0 rfl); (obtain ⟨c1, -⟩ := Hp.blk_cell KB.out 1 rfl); (obtain ⟨c2, -⟩ := Hp.blk_cell KB.out 2 rfl); clear hb))
      | (go_at_call 9; ((with_reducible refine (windrowref06_Draw.calls K P' T' R' _ _ _ _ _ _ _ HDr.out).mono ?_); rintro e w9 ⟨rfl, hb⟩; clear c0 c1 c2; replace KB := Lib.hid (blk_below KB.out hb); (try replace HX := Lib.hid (HX.out.below hb)); (try replace HYb := Lib.hid (HYb.out.below hb)); replace HB := Lib.hid (HB.out.trans (hb.mono HB.out.size)); (obtain ⟨c0, -⟩ := Hp.blk_cell KB.out 0 rfl); (obtain ⟨c1, -⟩ := Hp.blk_cell KB.out 1 rfl); (obtain ⟨c2, -⟩ := Hp.blk_cell KB.out 2 rfl); clear hb))
      | (go_at_call 8; ((with_reducible refine (windrowref08_Ref.calls _ _ _ _ _ _ ref _ _ HR8.out).mono ?_); rintro e w9 ⟨rfl, hb⟩; clear c0 c1 c2; replace KB := Lib.hid (blk_below KB.out hb); (try replace HX := Lib.hid (HX.out.below hb)); (try replace HYb := Lib.hid (HYb.out.below hb)); replace HB := Lib.hid (HB.out.trans (hb.mono HB.out.size)); (obtain ⟨c0, -⟩ := Hp.blk_cell KB.out 0 rfl); (obtain ⟨c1, -⟩ := Hp.blk_cell KB.out 1 rfl); (obtain ⟨c2, -⟩ := Hp.blk_cell KB.out 2 rfl); clear hb))
      | (go_at_call 10; ((with_reducible refine (newMark_yes _ P' T' R' ref _ HBa.out (Int.natCast_nonneg _) HZ.out HRf.out).mono ?_); rintro e w9 ⟨mx, rfl, -, -, hb⟩; clear c0 c1 c2; replace KB := Lib.hid (blk_below KB.out hb); (try replace HX := Lib.hid (HX.out.below hb)); (try replace HYb := Lib.hid (HYb.out.below hb)); replace HB := Lib.hid (HB.out.trans (hb.mono HB.out.size)); (obtain ⟨c0, -⟩ := Hp.blk_cell KB.out 0 rfl); (obtain ⟨c1, -⟩ := Hp.blk_cell KB.out 1 rfl); (obtain ⟨c2, -⟩ := Hp.blk_cell KB.out 2 rfl); clear hb))
      | (go_at_call 12; ((with_reducible refine (newShade_plan _ P' T' R' t ref _ HSt.out (by decide)).mono ?_); rintro e w9 ⟨rfl, hb⟩; clear c0 c1 c2; replace KB := Lib.hid (blk_below KB.out hb); (try replace HX := Lib.hid (HX.out.below hb)); (try replace HYb := Lib.hid (HYb.out.below hb)); replace HB := Lib.hid (HB.out.trans (hb.mono HB.out.size)); (obtain ⟨c0, -⟩ := Hp.blk_cell KB.out 0 rfl); (obtain ⟨c1, -⟩ := Hp.blk_cell KB.out 1 rfl); (obtain ⟨c2, -⟩ := Hp.blk_cell KB.out 2 rfl); clear hb)))
  try simp only [List.append_eq, List.append, List.cons_append, List.nil_append]
  go_upto_region 10 with (first
      | (go_at_call 11; ((with_reducible refine (windrowlaw08_plan.calls P' T' R' P' T' R' _ rfl).mono ?_); rintro e w9 ⟨rfl, hb⟩; clear c0 c1 c2; replace KB := Lib.hid (blk_below KB.out hb); (try replace HX := Lib.hid (HX.out.below hb)); (try replace HYb := Lib.hid (HYb.out.below hb)); replace HB := Lib.hid (HB.out.trans (hb.mono HB.out.size)); (obtain ⟨c0, -⟩ := Hp.blk_cell KB.out 0 rfl); (obtain ⟨c1, -⟩ := Hp.blk_cell KB.out 1 rfl); (obtain ⟨c2, -⟩ := Hp.blk_cell KB.out 2 rfl); clear hb))
      | (go_at_call 13; ((with_reducible refine (shaded _).mono ?_); rintro e w9 ⟨rfl, hb⟩; clear c0 c1 c2; replace KB := Lib.hid (blk_below KB.out hb); (try replace HX := Lib.hid (HX.out.below hb)); (try replace HYb := Lib.hid (HYb.out.below hb)); replace HB := Lib.hid (HB.out.trans (hb.mono HB.out.size)); (obtain ⟨c0, -⟩ := Hp.blk_cell KB.out 0 rfl); (obtain ⟨c1, -⟩ := Hp.blk_cell KB.out 1 rfl); (obtain ⟨c2, -⟩ := Hp.blk_cell KB.out 2 rfl); clear hb))
      | (go_at_call 14; ((with_reducible refine (mark_step_nil _ _).mono ?_); rintro e w9 ⟨rfl, hw⟩; obtain rfl := hw.symm))
      | (go_at_call 15; ((with_reducible refine (mark_over_nil _).mono ?_); rintro e w9 ⟨rfl, hw⟩; obtain rfl := hw.symm))
      | (go_at_call 16; ((with_reducible refine (mark_fresh_nil _).mono ?_); rintro e w9 ⟨rfl, hw⟩; obtain rfl := hw.symm))
      | (go_at_call 17; ((with_reducible refine (shade_step_nil _ _).mono ?_); rintro e w9 ⟨rfl, hw⟩; obtain rfl := hw.symm))
      | (go_at_call 18; ((with_reducible refine (shade_over_nil _).mono ?_); rintro e w9 ⟨rfl, hw⟩; obtain rfl := hw.symm))
      | (go_at_call 19; ((with_reducible refine (shade_fresh_nil _).mono ?_); rintro e w9 ⟨rfl, hw⟩; obtain rfl := hw.symm))
      | (go_at_call 20; ((with_reducible refine (shade_lost_nil _).mono ?_); rintro e w9 ⟨rfl, hw⟩; obtain rfl := hw.symm))
      | (go_at_call 21; ((with_reducible refine (shade_held_nil _).mono ?_); rintro e w9 ⟨rfl, hw⟩; obtain rfl := hw.symm))
      | (go_at_call 22; ((with_reducible refine (marked_nil _ P' T' R' ref HRf.out pg b q HPl.out Hb0.out HMk.out).mono ?_); rintro e w9 ⟨rfl, hb⟩; clear c0 c1 c2; replace KB := Lib.hid (blk_below KB.out hb); (try replace HX := Lib.hid (HX.out.below hb)); (try replace HYb := Lib.hid (HYb.out.below hb)); replace HB := Lib.hid (HB.out.trans (hb.mono HB.out.size)); (obtain ⟨c0, -⟩ := Hp.blk_cell KB.out 0 rfl); (obtain ⟨c1, -⟩ := Hp.blk_cell KB.out 1 rfl); (obtain ⟨c2, -⟩ := Hp.blk_cell KB.out 2 rfl); clear hb)))
  try simp only [List.append_eq, List.append, List.cons_append, List.nil_append]
  go_upto_region 12 with (fail)
  try simp only [List.append_eq, List.append, List.cons_append, List.nil_append]
  go_wp2_with (first
      | (go_at_call 15; ((with_reducible refine (mark_over_nil _).mono ?_); rintro e w9 ⟨rfl, hw⟩; obtain rfl := hw.symm))
      | (go_at_call 18; ((with_reducible refine (shade_over_nil _).mono ?_); rintro e w9 ⟨rfl, hw⟩; obtain rfl := hw.symm)))
  go_ret
  exact ⟨rfl, HB.out⟩

set_option maxHeartbeats 4000000 in
set_option maxRecDepth 100000 in
theorem snils_hn (P T R t ref : Int) (w : World) {P' T' R' : Nat} (hr : Lay.right P' T' R') (eP : P = P') (eT : T = T') (eR : R = R') (h0 : 0 ≤ t) (h1 : ¬ t < T) (hz : ref ≠ 0) (hw : 0 ≤ ref) (hf : ¬ ((Lay.bs P' T' R' : Int) ≤ ref ∧ ref < Lay.cl P' T' R')) :
    Calls Try.prog 3 #[.agg #[.int .i64 P, .int .i64 T, .int .i64 R], .int .i64 t, .int .u64 ref] w fun e w' => e = .returned (.bool true) ∧ Below w.heap.size w w' := by
  subst eP eT eR
  obtain ⟨K, hK⟩ := Lay.draw_ev hr
  have HDr : Hid (windrowref06_Draw.f K P' T' R' = some ((P' : Int), (T' : Int), (R' : Int), ((Lay.bs P' T' R' : Nat) : Int), ((Lay.tb T' R' : Nat) : Int), ((Lay.cl P' T' R' : Nat) : Int))) := Lib.hid (hK K (Nat.le_refl _))
  clear hK
  have HR6 := Lib.hid (Lay.right_true hr)
  have hba := Lay.p_base hr
  have hst : layout_Plan_Status.f P' T' R' t = some (-1) := by rw [Lay.p_status hr, if_neg (fun z => h1 z.2)]
  have z1 : (ref == 0) = false := by simp [hz]
  have z2 : (ref != 0) = true := by simp [hz]
  have hrf : layout_Plan_Ref.f P' T' R' ref = some false := by rw [Lay.p_ref hr hw, decide_eq_false hf]
  have HR8 := Lib.hid (sn_ref8_no (a := (P' : Int)) (b := (T' : Int)) (c := (R' : Int)) (d := ((Lay.tb T' R' : Nat) : Int)) hr hw hf)
  have HBa := Lib.hid hba
  have HSt := Lib.hid hst
  have HRf := Lib.hid hrf
  have HZ := Lib.hid hz
  have t0 : decide (0 ≤ t) = true := decide_eq_true h0
  have t1 : decide (t < (T' : Int)) = false := decide_eq_false h1
  clear hba hst hrf hr hz h0 h1 hw hf
  have KB := Lib.hid (Hp.blk_new w (.cells #[.int .i64 P', .int .i64 T', .int .i64 R'] 23))
  have HB := Lib.hid ((Below.refl w.heap.size w).alloc (Nat.le_refl _) (.cells #[.int .i64 P', .int .i64 T', .int .i64 R'] 23))
  obtain ⟨c0, -⟩ := Hp.blk_cell KB.out 0 rfl
  obtain ⟨c1, -⟩ := Hp.blk_cell KB.out 1 rfl
  obtain ⟨c2, -⟩ := Hp.blk_cell KB.out 2 rfl
  go_enter Try.func3, Try.ntmps3
  go_upto_region 8 with (first
      | (go_at_call 7; ((with_reducible refine (windrowref06_Right.calls P' T' R' _ _ HR6.out).mono ?_); rintro e w9 ⟨rfl, hb⟩; clear c0 c1 c2; replace KB := Lib.hid (blk_below KB.out hb); (try replace HX := Lib.hid (HX.out.below hb)); (try replace HYb := Lib.hid (HYb.out.below hb)); replace HB := Lib.hid (HB.out.trans (hb.mono HB.out.size)); (obtain ⟨c0, -⟩ := Hp.blk_cell KB.out 0 rfl); (obtain ⟨c1, -⟩ := Hp.blk_cell KB.out 1 rfl); (obtain ⟨c2, -⟩ := Hp.blk_cell KB.out 2 rfl); clear hb))
      | (go_at_call 11; ((with_reducible refine (windrowlaw08_plan.calls P' T' R' P' T' R' _ rfl).mono ?_); rintro e w9 ⟨rfl, hb⟩; clear c0 c1 c2; replace KB := Lib.hid (blk_below KB.out hb); (try replace HX := Lib.hid (HX.out.below hb)); (try replace HYb := Lib.hid (HYb.out.below hb)); replace HB := Lib.hid (HB.out.trans (hb.mono HB.out.size)); (obtain ⟨c0, -⟩ := Hp.blk_cell KB.out 0 rfl); (obtain ⟨c1, -⟩ := Hp.blk_cell KB.out 1 rfl); (obtain ⟨c2, -⟩ := Hp.blk_cell KB.out 2 rfl); clear hb))
      | (go_at_call 9; ((with_reducible refine (windrowref06_Draw.calls K P' T' R' _ _ _ _ _ _ _ HDr.out).mono ?_); rintro e w9 ⟨rfl, hb⟩; clear c0 c1 c2; replace KB := Lib.hid (blk_below KB.out hb); (try replace HX := Lib.hid (HX.out.below hb)); (try replace HYb := Lib.hid (HYb.out.below hb)); replace HB := Lib.hid (HB.out.trans (hb.mono HB.out.size)); (obtain ⟨c0, -⟩ := Hp.blk_cell KB.out 0 rfl); (obtain ⟨c1, -⟩ := Hp.blk_cell KB.out 1 rfl); (obtain ⟨c2, -⟩ := Hp.blk_cell KB.out 2 rfl); clear hb))
      | (go_at_call 8; ((with_reducible refine (windrowref08_Ref.calls _ _ _ _ _ _ ref _ _ HR8.out).mono ?_); rintro e w9 ⟨rfl, hb⟩; clear c0 c1 c2; replace KB := Lib.hid (blk_below KB.out hb); (try replace HX := Lib.hid (HX.out.below hb)); (try replace HYb := Lib.hid (HYb.out.below hb)); replace HB := Lib.hid (HB.out.trans (hb.mono HB.out.size)); (obtain ⟨c0, -⟩ := Hp.blk_cell KB.out 0 rfl); (obtain ⟨c1, -⟩ := Hp.blk_cell KB.out 1 rfl); (obtain ⟨c2, -⟩ := Hp.blk_cell KB.out 2 rfl); clear hb))
      | (go_at_call 10; ((with_reducible refine (newMark_addr _ P' T' R' ref _ HBa.out (Int.natCast_nonneg _) HZ.out HRf.out).mono ?_); rintro e w9 ⟨rfl, hb⟩; clear c0 c1 c2; replace KB := Lib.hid (blk_below KB.out hb); (try replace HX := Lib.hid (HX.out.below hb)); (try replace HYb := Lib.hid (HYb.out.below hb)); replace HB := Lib.hid (HB.out.trans (hb.mono HB.out.size)); (obtain ⟨c0, -⟩ := Hp.blk_cell KB.out 0 rfl); (obtain ⟨c1, -⟩ := Hp.blk_cell KB.out 1 rfl); (obtain ⟨c2, -⟩ := Hp.blk_cell KB.out 2 rfl); clear hb))
      | (go_at_call 12; ((with_reducible refine (newShade_plan _ P' T' R' t ref _ HSt.out (by decide)).mono ?_); rintro e w9 ⟨rfl, hb⟩; clear c0 c1 c2; replace KB := Lib.hid (blk_below KB.out hb); (try replace HX := Lib.hid (HX.out.below hb)); (try replace HYb := Lib.hid (HYb.out.below hb)); replace HB := Lib.hid (HB.out.trans (hb.mono HB.out.size)); (obtain ⟨c0, -⟩ := Hp.blk_cell KB.out 0 rfl); (obtain ⟨c1, -⟩ := Hp.blk_cell KB.out 1 rfl); (obtain ⟨c2, -⟩ := Hp.blk_cell KB.out 2 rfl); clear hb)))
  try simp only [List.append_eq, List.append, List.cons_append, List.nil_append]
  go_upto_region 10 with (first
      | (go_at_call 11; ((with_reducible refine (windrowlaw08_plan.calls P' T' R' P' T' R' _ rfl).mono ?_); rintro e w9 ⟨rfl, hb⟩; clear c0 c1 c2; replace KB := Lib.hid (blk_below KB.out hb); (try replace HX := Lib.hid (HX.out.below hb)); (try replace HYb := Lib.hid (HYb.out.below hb)); replace HB := Lib.hid (HB.out.trans (hb.mono HB.out.size)); (obtain ⟨c0, -⟩ := Hp.blk_cell KB.out 0 rfl); (obtain ⟨c1, -⟩ := Hp.blk_cell KB.out 1 rfl); (obtain ⟨c2, -⟩ := Hp.blk_cell KB.out 2 rfl); clear hb))
      | (go_at_call 13; ((with_reducible refine (shaded _).mono ?_); rintro e w9 ⟨rfl, hb⟩; clear c0 c1 c2; replace KB := Lib.hid (blk_below KB.out hb); (try replace HX := Lib.hid (HX.out.below hb)); (try replace HYb := Lib.hid (HYb.out.below hb)); replace HB := Lib.hid (HB.out.trans (hb.mono HB.out.size)); (obtain ⟨c0, -⟩ := Hp.blk_cell KB.out 0 rfl); (obtain ⟨c1, -⟩ := Hp.blk_cell KB.out 1 rfl); (obtain ⟨c2, -⟩ := Hp.blk_cell KB.out 2 rfl); clear hb))
      | (go_at_call 14; ((with_reducible refine (mark_step_nil _ _).mono ?_); rintro e w9 ⟨rfl, hw⟩; obtain rfl := hw.symm))
      | (go_at_call 15; ((with_reducible refine (mark_over_nil _).mono ?_); rintro e w9 ⟨rfl, hw⟩; obtain rfl := hw.symm))
      | (go_at_call 16; ((with_reducible refine (mark_fresh_nil _).mono ?_); rintro e w9 ⟨rfl, hw⟩; obtain rfl := hw.symm))
      | (go_at_call 17; ((with_reducible refine (shade_step_nil _ _).mono ?_); rintro e w9 ⟨rfl, hw⟩; obtain rfl := hw.symm))
      | (go_at_call 18; ((with_reducible refine (shade_over_nil _).mono ?_); rintro e w9 ⟨rfl, hw⟩; obtain rfl := hw.symm))
      | (go_at_call 19; ((with_reducible refine (shade_fresh_nil _).mono ?_); rintro e w9 ⟨rfl, hw⟩; obtain rfl := hw.symm))
      | (go_at_call 20; ((with_reducible refine (shade_lost_nil _).mono ?_); rintro e w9 ⟨rfl, hw⟩; obtain rfl := hw.symm))
      | (go_at_call 21; ((with_reducible refine (shade_held_nil _).mono ?_); rintro e w9 ⟨rfl, hw⟩; obtain rfl := hw.symm))
      | (go_at_call 22; ((with_reducible refine (marked_no _ (.pointer none) P' T' R' ref HRf.out).mono ?_); rintro e w9 ⟨rfl, hb⟩; clear c0 c1 c2; replace KB := Lib.hid (blk_below KB.out hb); (try replace HX := Lib.hid (HX.out.below hb)); (try replace HYb := Lib.hid (HYb.out.below hb)); replace HB := Lib.hid (HB.out.trans (hb.mono HB.out.size)); (obtain ⟨c0, -⟩ := Hp.blk_cell KB.out 0 rfl); (obtain ⟨c1, -⟩ := Hp.blk_cell KB.out 1 rfl); (obtain ⟨c2, -⟩ := Hp.blk_cell KB.out 2 rfl); clear hb)))
  try simp only [List.append_eq, List.append, List.cons_append, List.nil_append]
  go_upto_region 12 with (fail)
  try simp only [List.append_eq, List.append, List.cons_append, List.nil_append]
  go_wp2_with (first
      | (go_at_call 15; ((with_reducible refine (mark_over_nil _).mono ?_); rintro e w9 ⟨rfl, hw⟩; obtain rfl := hw.symm))
      | (go_at_call 18; ((with_reducible refine (shade_over_nil _).mono ?_); rintro e w9 ⟨rfl, hw⟩; obtain rfl := hw.symm)))
  go_ret
  exact ⟨rfl, HB.out⟩

theorem snils_law (P T R t ref : Int) (hw : 0 ≤ ref) (w : World) : Calls Try.prog 3 #[.agg #[.int .i64 P, .int .i64 T, .int .i64 R], .int .i64 t, .int .u64 ref] w fun e w' => e = .returned (.bool true) ∧ Below w.heap.size w w' := by
  rcases Lay.right_cases P T R with ⟨P', T', R', eP, eT, eR, hr⟩ | ⟨h6, hp⟩
  · by_cases hz : ref = 0
    · subst hz
      by_cases h0 : 0 ≤ t
      · by_cases h1 : t < T
        · exact snils_yz P T R t w hr eP eT eR h0 h1
        · exact snils_hz P T R t w hr eP eT eR h0 h1
      · exact snils_lz P T R t w hr eP eT eR (by omega)
    · by_cases hf : (Lay.bs P' T' R' : Int) ≤ ref ∧ ref < Lay.cl P' T' R'
      · by_cases h0 : 0 ≤ t
        · by_cases h1 : t < T
          · exact snils_yy P T R t ref w hr eP eT eR h0 h1 hz hw hf
          · exact snils_hy P T R t ref w hr eP eT eR h0 h1 hz hw hf
        · exact snils_ly P T R t ref w hr eP eT eR (by omega) hz hw hf
      · by_cases h0 : 0 ≤ t
        · by_cases h1 : t < T
          · exact snils_yn P T R t ref w hr eP eT eR h0 h1 hz hw hf
          · exact snils_hn P T R t ref w hr eP eT eR h0 h1 hz hw hf
        · exact snils_ln P T R t ref w hr eP eT eR (by omega) hz hw hf
  · by_cases hz : ref = 0
    · subst hz; exact snils_n0 P T R t w h6 hp
    · exact snils_n1 P T R t ref w h6 hp hz
theorem snils_row (P T R t ref : Int) (hw : (Lit.int .u64 ref).wf = true) (w : World) : Calls Try.prog 3 #[.agg #[.int .i64 P, .int .i64 T, .int .i64 R], .int .i64 t, .int .u64 ref] w fun e w' => e = .returned (.bool true) ∧ Below w.heap.size w w' :=
  snils_law P T R t ref (by
    simp only [Lit.wf, Bool.and_eq_true, decide_eq_true_eq] at hw
    exact hw.1) w
end Go.Proofs.Ytcnledehnefldaa.Ar

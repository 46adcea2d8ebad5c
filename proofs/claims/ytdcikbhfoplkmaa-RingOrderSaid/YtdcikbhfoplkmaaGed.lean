/- ringed: a ring of one place takes one word, and no other. -/
import Derived.Test.YtdcikbhfoplkmaaFin
namespace Go.Proofs.Ytdcikbhfoplkmaa.Ar
open Go Go.RowKit Go.Proofs.Ytdcikbhfoplkmaa.Hp Go.Proofs.Ytdcikbhfoplkmaa.PH
set_option linter.unusedVariables false
set_option linter.unusedSimpArgs false

theorem g_cells : windrowref06_Cells.f 200 1 1 1 = some ((128 : Nat) : Int) := by decide +kernel
theorem g_plan : windrowlaw07_plan.f 1 1 1 = some (1, 1, 1) := by decide +kernel
theorem g_right : ring_right.f 1 1 1 0 = some true := by decide +kernel
theorem g_tail : layout_Plan_Tail.f 1 1 1 0 = some 20 := by decide +kernel
theorem g_head : layout_Plan_Head.f 1 1 1 0 = some 19 := by decide +kernel
theorem g_slot : layout_Plan_Slot.f 1 1 1 0 0 = some 21 := by decide +kernel
abbrev A0 : AS := ⟨List.replicate 128 0, [], true, 0, 0⟩
abbrev A1 : AS := stS A0 0 7 20 19 21 4
abbrev A2 : AS := stS A1 0 8 20 19 0 2
theorem g_rd : rdT A0 0 20 = 0 ∧ rdH A0 0 20 19 = 0 ∧ rdT A1 0 20 = 1 ∧ rdH A1 0 20 19 = 0 ∧ A1.log.length = 4 ∧ A2.count = 6 := by decide +kernel

set_option maxHeartbeats 2000000 in
set_option maxRecDepth 100000 in
theorem ringed (w : World) : Calls Try.prog 8 #[] w fun e w' => e = .returned (.bool true) ∧ Below w.heap.size w w' := by
  have hlay := lay w 1 1 1 0 128 200 g_cells (by decide) (by decide) (by decide) (by decide)
  go_enter Try.func8, Try.ntmps8
  go_upto_region 5 with (first
    | (go_at_call 10; (refine hlay.mono ?_; clear hlay; rintro e w2 ⟨a, c, p, rfl, hS, hb⟩; (have HS := Lib.hid hS); (have HB := Lib.hid hb); clear hS hb))
    | (go_at_call 13; (refine (windrowlaw07_plan.calls 1 1 1 1 1 1 _ g_plan).mono ?_; rintro e w3 ⟨rfl, hb⟩; replace HS := Lib.hid (HS.out.below hb); replace HB := Lib.hid (HB.out.trans (hb.mono HB.out.size)); clear hb))
    | (go_at_call 12; (refine (newPush_yes _ 1 1 1 0 7 g_right (by decide)).mono ?_; rintro e w4 ⟨m1, rfl, hm1, hX, hb⟩; (have HX1 := Lib.hid hX); (have M1 := Lib.hid (Nat.le_trans HB.out.size hm1)); replace HS := Lib.hid (HS.out.below hb); replace HB := Lib.hid (HB.out.trans (hb.mono HB.out.size)); clear hb hX hm1)))
  go_upto_region 8 with (first
    | (go_at_call 13; (refine (windrowlaw07_plan.calls 1 1 1 1 1 1 _ g_plan).mono ?_; rintro e w5 ⟨rfl, hb⟩; replace HX1 := Lib.hid (HX1.out.below hb); replace HS := Lib.hid (HS.out.below hb); replace HB := Lib.hid (HB.out.trans (hb.mono HB.out.size)); clear hb))
    | (go_at_call 12; (refine (newPush_yes _ 1 1 1 0 8 g_right (by decide)).mono ?_; rintro e w6 ⟨m2, rfl, hm2, hX, hb⟩; (have HNE := Lib.hid (Nat.lt_of_lt_of_le (blk_lt HX1.out) hm2)); (have HX2 := Lib.hid hX); (have M2 := Lib.hid (Nat.le_trans HB.out.size hm2)); replace HX1 := Lib.hid (HX1.out.below hb); replace HS := Lib.hid (HS.out.below hb); replace HB := Lib.hid (HB.out.trans (hb.mono HB.out.size)); clear hb hX hm2)))
  go_upto_region 9 with (first
    | (go_at_call 14; ((have hm := finish_room (qT := 20) (qH := 19) (qS := 21) HS.out 0 (g := false) (p := p) (who := 0) rfl m1 HX1.out M1.out g_tail g_head (by rw [g_rd.1]; exact g_slot) (by simp) (by rw [g_rd.1, g_rd.2.1]; decide)); refine hm.mono ?_; clear hm; rintro e w7 ⟨rfl, hX, ⟨ps', hi, hS⟩, hb, hF⟩; (have HX3 := Lib.hid (hF.blk HX2.out (fun z => by rcases z with rfl | z; exact absurd HNE.out (Nat.lt_irrefl _); exact not_touch HX2.out (blk_ne HX2.out (sys_cel HS.out) (by decide)) (by decide) z))); (have HX4 := Lib.hid hX); (have HS3 := Lib.hid hS); (have HI3 := Lib.hid hi); replace HB := Lib.hid (HB.out.trans hb); clear hX hS hi hb hF HX1 HX2 HS))
    | (go_at_call 14; ((have hm := finish_full (qT := 20) (qH := 19) HS3.out 0 (g := false) (p := p) (who := 0) HI3.out m2 HX3.out M2.out g_tail g_head (by rw [g_rd.2.2.2.2.1]; decide) (by rw [g_rd.2.2.1, g_rd.2.2.2.1]; decide)); refine hm.mono ?_; clear hm; rintro e w8 ⟨rfl, hX, ⟨ps2, hi2, hS⟩, hb, hF⟩; (have HX5 := Lib.hid (hF.blk HX4.out (fun z => by rcases z with rfl | z; exact absurd HNE.out (Nat.lt_irrefl _); exact not_touch HX4.out (blk_ne HX4.out (sys_cel HS3.out) (by decide)) (by decide) z))); (have HX6 := Lib.hid hX); (have HS4 := Lib.hid hS); replace HB := Lib.hid (HB.out.trans hb); clear hX hS hb hF HX3 HX4)))
  go_wp2_with (first
    | (go_at_call 17; ((have hm : Calls Try.prog 17 #[.pointer (some ⟨m1, 0, none⟩)] w8 fun e w' => e = .returned (.bool false) ∧ w' = w8 := push_full w8 m1 (stX 1 1 1 0 7 (rdT A0 0 20) (rdH A0 0 20 19) 4) HX5.out); with_reducible refine hm.mono ?_; clear hm; rintro e w9 ⟨rfl, hw⟩; obtain rfl := hw.symm))
    | (go_at_call 17; ((have hm : Calls Try.prog 17 #[.pointer (some ⟨m2, 0, none⟩)] w8 fun e w' => e = .returned (.bool true) ∧ w' = w8 := push_full w8 m2 ⟨1, 1, 1, 0, 8, 4, rdH A1 0 20 19, rdT A1 0 20, true⟩ HX6.out); with_reducible refine hm.mono ?_; clear hm; rintro e w9 ⟨rfl, hw⟩; obtain rfl := hw.symm))
    | (go_at_call 41; ((have hm := HS4.out.count); rw [show (stS A1 0 8 20 19 0 2).count = 6 from g_rd.2.2.2.2.2] at hm; refine hm.mono ?_; clear hm; rintro e w9 ⟨rfl, hw⟩; obtain rfl := hw.symm)))
  go_ret
  exact ⟨rfl, HB.out⟩
end Go.Proofs.Ytdcikbhfoplkmaa.Ar

import Derived.Test.YtdcikbhfoplkmaaPHx0
import Derived.Test.YtdcikbhfoplkmaaShr
import Derived.Test.YtdcikbhfoplkmaaFin
import Derived.Test.YtdcikbhfoplkmaaPur
-- Written by a program of the prover's (mp.py). Not trusted: Lean checks it.
namespace Go.Proofs.Ytdcikbhfoplkmaa.PH
open Go.RowKit Go.Proofs.YtdcikbhfoplkmaaW.PrintWords Go.Proofs.YtdcikbhfoplkmaaW.PrintLast Go.Proofs.YtdcikbhfoplkmaaW.PrintMore
set_option linter.unusedVariables false
set_option linter.unusedSimpArgs false

/-! ### windrowref01_Words: function 62 -/
def windrowref01_Words.l0 : Nat → List Int → List Int → Int → Option (Bool)
  | 0, _, _, _ => none
  | k + 1, x0, x1, x5 => if x5 < (x0.length : Int) then (if 0 ≤ x5 then (if x5 < (x1.length : Int) then (if (rd x0 x5) = (rd x1 x5) then (windrowref01_Words.l0 k x0 x1 (wrap64 (x5 + 1))) else (some false)) else (none)) else (none)) else (some true)
def windrowref01_Words.f (k : Nat) (l0 : List Int) (l1 : List Int) : Option (Bool) := if (l0.length : Int) = (l1.length : Int) then (windrowref01_Words.l0 k l0 l1 0) else (some false)
theorem windrowref01_Words.mono_l : ∀ k, (∀ y0 y1 y2, LeO (windrowref01_Words.l0 k y0 y1 y2) (windrowref01_Words.l0 (k + 1) y0 y1 y2))
  | 0 => fun _ _ _ r h => by simp [windrowref01_Words.l0] at h
  | k + 1 => by
    have ih0 := windrowref01_Words.mono_l k
    · intro y0 y1 y2
      unfold windrowref01_Words.l0
      repeat' first
      | (with_reducible exact ih0 _ _ _)
      | (with_reducible exact LeO.refl _)
      | (with_reducible exact LeO.none _)
      | (with_reducible refine LeO.ite ?_ ?_)
      | (with_reducible refine LeO.bind ?_ (fun _ => ?_))
      | exact ih0 _ _ _
      | exact LeO.none _
      | refine LeO.ite ?_ ?_
      | refine LeO.bind ?_ (fun _ => ?_)
theorem windrowref01_Words.mono : ∀ a0 a1 k, LeO (windrowref01_Words.f k a0 a1) (windrowref01_Words.f (k + 1) a0 a1) := by
  intro a0 a1 k
  have ih0 := windrowref01_Words.mono_l k
  unfold windrowref01_Words.f
  repeat' first
      | (with_reducible exact ih0 _ _ _)
      | (with_reducible exact LeO.refl _)
      | (with_reducible exact LeO.none _)
      | (with_reducible refine LeO.ite ?_ ?_)
      | (with_reducible refine LeO.bind ?_ (fun _ => ?_))
      | exact ih0 _ _ _
      | exact LeO.none _
      | refine LeO.ite ?_ ?_
      | refine LeO.bind ?_ (fun _ => ?_)
set_option maxHeartbeats 8000000 in
set_option maxRecDepth 100000 in
theorem windrowref01_Words.calls (k : Nat) (A0 : Option Addr) (c0 : Nat) (l0 : List Int) (A1 : Option Addr) (c1 : Nat) (l1 : List Int) (r : Bool) (w : World) (hr0 : Kd.C (Kd.int .u64) w A0 l0.length l0) (hc0 : l0.length ≤ c0) (hr1 : Kd.C (Kd.int .u64) w A1 l1.length l1) (hc1 : l1.length ≤ c1) (h : windrowref01_Words.f k l0 l1 = some r) :
    Calls Try.prog 62 #[.slice A0 l0.length c0, .slice A1 l1.length c1] w fun e w' => e = .returned (.bool r) ∧ Drawn0 w w' := by
  have HR0 := Aside0.mk hr0
  have HC0 := Aside0.mk hc0
  clear hr0 hc0
  have HR1 := Aside0.mk hr1
  have HC1 := Aside0.mk hc1
  clear hr1 hc1
  have H : (if (l0.length : Int) = (l1.length : Int) then (windrowref01_Words.l0 k l0 l1 0) else (some false)) = some r := h
  clear h
  by_cases c3 : (l0.length : Int) = (l1.length : Int)
  rotate_left
  · rw [if_neg c3] at H
    have c3b0 : ((l0.length : Int) == (l1.length : Int)) = false := beq_eq_false_iff_ne.mpr c3
    have c3b1 : ((l0.length : Int) != (l1.length : Int)) = true := bne_iff_ne.mpr c3
    have c3b2 : (l0.length == l1.length) = false := by first | simpa using c3 | (simp at c3 ⊢; omega)
    obtain rfl := Option.some.inj H
    go_enter Try.func62, Try.ntmps62
    go_wp2
    repeat (go_quiet (fail); try go_wp2)
    go_ret
    exact ⟨by first | rfl | (simp; done) | (simp [*]; done), by repeat (first | exact Drawn0.refl _ | apply Drawn0.step)⟩
  rw [if_pos c3] at H
  have c3b0 : ((l0.length : Int) == (l1.length : Int)) = true := beq_iff_eq.mpr c3
  have c3b1 : ((l0.length : Int) != (l1.length : Int)) = false := bne_eq_false_iff_eq.mpr c3
  have c3b2 : (l0.length == l1.length) = true := by first | simpa using c3 | (simp at c3 ⊢; omega)
  clear c3
  have H' := Aside0.mk H
  clear H
  go_enter Try.func62, Try.ntmps62
  go_wp2
  repeat (go_quiet (fail); try go_wp2)
  go_loopg [5] k (fun kq v5 w' => ∃ (x5_1 : Int), v5 = .int .i64 x5_1 ∧ Aside0 (windrowref01_Words.l0 kq l0 l1 x5_1 = some r) ∧ Aside0 (kq ≤ k) ∧ Drawn0 w w')
  case atStart => exact ⟨(0), (by first | rfl | (simp; done) | (simp [*]; done)), H', ⟨Nat.le_refl _⟩, by repeat (first | exact Drawn0.refl _ | apply Drawn0.step)⟩
  clear H'
  try clear c1
  try clear p2
  try clear c3
  try clear c3b0
  try clear c3b1
  try clear c3b2
  obtain ⟨x5_1, rfl, HA, HK1, ⟨m1, rfl⟩⟩ := hrel
  cases gk with
  | zero => exact absurd HA.out (by simp [windrowref01_Words.l0])
  | succ k1 =>
    have H := HA.out
    clear HA
    simp only [windrowref01_Words.l0] at H
    by_cases c4 : x5_1 < (l0.length : Int)
    rotate_left
    · rw [if_neg c4] at H
      have c4b0 : decide (x5_1 < (l0.length : Int)) = false := decide_eq_false c4
      clear c4
      obtain rfl := Option.some.inj H
      go_wp2
      repeat (go_quiet (fail); try go_wp2)
      go_ret
      exact ⟨by first | rfl | (simp; done) | (simp [*]; done), by repeat (first | exact Drawn0.refl _ | apply Drawn0.step)⟩
    rw [if_pos c4] at H
    have c4b0 : decide (x5_1 < (l0.length : Int)) = true := decide_eq_true c4
    clear c4
    by_cases c5 : 0 ≤ x5_1
    rotate_left
    · rw [if_neg c5] at H
      exact absurd H (by simp)
    rw [if_pos c5] at H
    have c5b0 : decide (0 ≤ x5_1) = true := decide_eq_true c5
    clear c5
    by_cases c6 : x5_1 < (l1.length : Int)
    rotate_left
    · rw [if_neg c6] at H
      exact absurd H (by simp)
    rw [if_pos c6] at H
    have c6b0 : decide (x5_1 < (l1.length : Int)) = true := decide_eq_true c6
    clear c6
    by_cases c7 : (rd l0 x5_1) = (rd l1 x5_1)
    rotate_left
    · rw [if_neg c7] at H
      have c7b0 : ((rd l0 x5_1) == (rd l1 x5_1)) = false := beq_eq_false_iff_ne.mpr c7
      have c7b1 : ((rd l0 x5_1) != (rd l1 x5_1)) = true := bne_iff_ne.mpr c7
      obtain rfl := Option.some.inj H
      have p305 : 0 ≤ (x5_1 : Int) := of_decide_eq_true (by first | (with_reducible assumption) | assumption)
      have q305 : x5_1 < (l0.length : Int) := of_decide_eq_true (by first | (with_reducible assumption) | assumption)
      obtain ⟨ad305, e305, hx305_0⟩ := Kd.at_int HR0.out x5_1 p305 q305
      cases e305
      replace p305 := eq_true p305
      replace q305 := eq_true q305
      have p306 : 0 ≤ (x5_1 : Int) := of_decide_eq_true (by first | (with_reducible assumption) | assumption)
      have q306 : x5_1 < (l1.length : Int) := of_decide_eq_true (by first | (with_reducible assumption) | assumption)
      obtain ⟨ad306, e306, hx306_0⟩ := Kd.at_int HR1.out x5_1 p306 q306
      cases e306
      replace p306 := eq_true p306
      replace q306 := eq_true q306
      go_wp2
      repeat (go_quiet (fail); try go_wp2)
      go_ret
      exact ⟨by first | rfl | (simp; done) | (simp [*]; done), by repeat (first | exact Drawn0.refl _ | apply Drawn0.step)⟩
    rw [if_pos c7] at H
    have c7b0 : ((rd l0 x5_1) == (rd l1 x5_1)) = true := beq_iff_eq.mpr c7
    have c7b1 : ((rd l0 x5_1) != (rd l1 x5_1)) = false := bne_eq_false_iff_eq.mpr c7
    clear c7
    have H' := Aside0.mk H
    clear H
    have p305 : 0 ≤ (x5_1 : Int) := of_decide_eq_true (by first | (with_reducible assumption) | assumption)
    have q305 : x5_1 < (l0.length : Int) := of_decide_eq_true (by first | (with_reducible assumption) | assumption)
    obtain ⟨ad305, e305, hx305_0⟩ := Kd.at_int HR0.out x5_1 p305 q305
    cases e305
    replace p305 := eq_true p305
    replace q305 := eq_true q305
    have p306 : 0 ≤ (x5_1 : Int) := of_decide_eq_true (by first | (with_reducible assumption) | assumption)
    have q306 : x5_1 < (l1.length : Int) := of_decide_eq_true (by first | (with_reducible assumption) | assumption)
    obtain ⟨ad306, e306, hx306_0⟩ := Kd.at_int HR1.out x5_1 p306 q306
    cases e306
    replace p306 := eq_true p306
    replace q306 := eq_true q306
    go_wp2
    repeat (go_quiet (fail); try go_wp2)
    go_roundg k1
    case measure => have := HK1.out; omega
    case rel => exact ⟨(wrap64 (x5_1 + 1)), (by first | rfl | (simp; done) | (simp [*]; done)), H', ⟨by have := HK1.out; omega⟩, by repeat (first | exact Drawn0.refl _ | apply Drawn0.step)⟩

-- NOT PRINTED: function 40 (windrowlaw07_waits)

-- NOT PRINTED: function 7 (windrowlaw07_RingSteps)

end Go.Proofs.Ytdcikbhfoplkmaa.PH
/- ringed: a ring of one place takes one word, and no other. -/
namespace Go.Proofs.Ytdcikbhfoplkmaa.Ar
open Go Go.RowKit Go.Proofs.Ytdcikbhfoplkmaa.Hp Go.Proofs.Ytdcikbhfoplkmaa.PH
set_option linter.unusedVariables false
set_option linter.unusedSimpArgs false

theorem g_cells : windrowref06_Cells.f 200 1 1 1 = some ((128 : Nat) : Int) := by decide +kernel
theorem g_plan : windrowlaw07_plan.f 1 1 1 = some (1, 1, 1) := by decide +kernel
theorem g_right : ring_right.f 1 1 1 0 = some true := by decide +kernel
theorem g_tail : layout_Plan_Tail.f 1 1 1 0 = some 20 := by decide +kernel
theorem g_head : layout_Plan_Head.f 1 1 1 0 = some 19 := by decide +kernel
theorem g_slot : layout_Plan_Slot.f 1 1 1 0 0 = some 21 := by decide +kernel
abbrev A0 : AS := ⟨List.replicate 128 0, [], true, 0, 0⟩
abbrev A1 : AS := stS A0 0 7 20 19 21 4
abbrev A2 : AS := stS A1 0 8 20 19 0 2
theorem g_rd : rdT A0 0 20 = 0 ∧ rdH A0 0 20 19 = 0 ∧ rdT A1 0 20 = 1 ∧ rdH A1 0 20 19 = 0 ∧ A1.log.length = 4 ∧ A2.count = 6 := by decide +kernel

set_option maxHeartbeats 2000000 in
set_option maxRecDepth 100000 in
theorem ringed (w : World) : Calls Try.prog 8 #[] w fun e w' => e = .returned (.bool true) ∧ Below w.heap.size w w' := by
  have hlay := lay w 1 1 1 0 128 200 g_cells (by decide) (by decide) (by decide) (by decide)
  go_enter Try.func8, Try.ntmps8
  go_upto_region 5 with (first
    | (go_at_call 10; (refine hlay.mono ?_; clear hlay; rintro e w2 ⟨a, c, p, rfl, hS, hb⟩; (have HS := Lib.hid hS); (have HB := Lib.hid hb); clear hS hb))
    | (go_at_call 13; (refine (windrowlaw07_plan.calls 1 1 1 1 1 1 _ g_plan).mono ?_; rintro e w3 ⟨rfl, hb⟩; replace HS := Lib.hid (HS.out.below hb); replace HB := Lib.hid (HB.out.trans (hb.mono HB.out.size)); clear hb))
    | (go_at_call 12; (refine (newPush_yes _ 1 1 1 0 7 g_right (by decide)).mono ?_; rintro e w4 ⟨m1, rfl, hm1, hX, hb⟩; (have HX1 := Lib.hid hX); (have M1 := Lib.hid (Nat.le_trans HB.out.size hm1)); replace HS := Lib.hid (HS.out.below hb); replace HB := Lib.hid (HB.out.trans (hb.mono HB.out.size)); clear hb hX hm1)))
  go_upto_region 8 with (first
    | (go_at_call 13; (refine (windrowlaw07_plan.calls 1 1 1 1 1 1 _ g_plan).mono ?_; rintro e w5 ⟨rfl, hb⟩; replace HX1 := Lib.hid (HX1.out.below hb); replace HS := Lib.hid (HS.out.below hb); replace HB := Lib.hid (HB.out.trans (hb.mono HB.out.size)); clear hb))
    | (go_at_call 12; (refine (newPush_yes _ 1 1 1 0 8 g_right (by decide)).mono ?_; rintro e w6 ⟨m2, rfl, hm2, hX, hb⟩; (have HNE := Lib.hid (Nat.lt_of_lt_of_le (blk_lt HX1.out) hm2)); (have HX2 := Lib.hid hX); (have M2 := Lib.hid (Nat.le_trans HB.out.size hm2)); replace HX1 := Lib.hid (HX1.out.below hb); replace HS := Lib.hid (HS.out.below hb); replace HB := Lib.hid (HB.out.trans (hb.mono HB.out.size)); clear hb hX hm2)))
  go_upto_region 9 with (first
    | (go_at_call 14; ((have hm := finish_room (qT := 20) (qH := 19) (qS := 21) HS.out 0 (g := false) (p := p) (who := 0) rfl m1 HX1.out M1.out g_tail g_head (by rw [g_rd.1]; exact g_slot) (by simp) (by rw [g_rd.1, g_rd.2.1]; decide)); refine hm.mono ?_; clear hm; rintro e w7 ⟨rfl, hX, ⟨ps', hi, hS⟩, hb, hF⟩; (have HX3 := Lib.hid (hF.blk HX2.out (fun z => by rcases z with rfl | z; exact absurd HNE.out (Nat.lt_irrefl _); exact not_touch HX2.out (blk_ne HX2.out (sys_cel HS.out) (by decide)) (by decide) z))); (have HX4 := Lib.hid hX); (have HS3 := Lib.hid hS); (have HI3 := Lib.hid hi); replace HB := Lib.hid (HB.out.trans hb); clear hX hS hi hb hF HX1 HX2 HS))
    | (go_at_call 14; ((have hm := finish_full (qT := 20) (qH := 19) HS3.out 0 (g := false) (p := p) (who := 0) HI3.out m2 HX3.out M2.out g_tail g_head (by rw [g_rd.2.2.2.2.1]; decide) (by rw [g_rd.2.2.1, g_rd.2.2.2.1]; decide)); refine hm.mono ?_; clear hm; rintro e w8 ⟨rfl, hX, ⟨ps2, hi2, hS⟩, hb, hF⟩; (have HX5 := Lib.hid (hF.blk HX4.out (fun z => by rcases z with rfl | z; exact absurd HNE.out (Nat.lt_irrefl _); exact not_touch HX4.out (blk_ne HX4.out (sys_cel HS3.out) (by decide)) (by decide) z))); (have HX6 := Lib.hid hX); (have HS4 := Lib.hid hS); replace HB := Lib.hid (HB.out.trans hb); clear hX hS hb hF HX3 HX4)))
  go_wp2_with (first
    | (go_at_call 17; ((have hm : Calls Try.prog 17 #[.pointer (some ⟨m1, 0, none⟩)] w8 fun e w' => e = .returned (.bool false) ∧ w' = w8 := push_full w8 m1 (stX 1 1 1 0 7 (rdT A0 0 20) (rdH A0 0 20 19) 4) HX5.out); with_reducible refine hm.mono ?_; clear hm; rintro e w9 ⟨rfl, hw⟩; obtain rfl := hw.symm))
    | (go_at_call 17; ((have hm : Calls Try.prog 17 #[.pointer (some ⟨m2, 0, none⟩)] w8 fun e w' => e = .returned (.bool true) ∧ w' = w8 := push_full w8 m2 ⟨1, 1, 1, 0, 8, 4, rdH A1 0 20 19, rdT A1 0 20, true⟩ HX6.out); with_reducible refine hm.mono ?_; clear hm; rintro e w9 ⟨rfl, hw⟩; obtain rfl := hw.symm))
    | (go_at_call 41; ((have hm := HS4.out.count); rw [show (stS A1 0 8 20 19 0 2).count = 6 from g_rd.2.2.2.2.2] at hm; refine hm.mono ?_; clear hm; rintro e w9 ⟨rfl, hw⟩; obtain rfl := hw.symm)))
  go_ret
  exact ⟨rfl, HB.out⟩
end Go.Proofs.Ytdcikbhfoplkmaa.Ar
/- Waiting, where no ring is told. -/
namespace Go.Proofs.Ytdcikbhfoplkmaa.Ar
open Go Go.RowKit Go.Proofs.Ytdcikbhfoplkmaa.Hp Go.Proofs.Ytdcikbhfoplkmaa.PH
set_option linter.unusedVariables false
set_option linter.unusedSimpArgs false

end Go.Proofs.Ytdcikbhfoplkmaa.Ar
/- A plan's places as numbers. -/
namespace Go.Proofs.Ytdcikbhfoplkmaa.Ar
open Go Go.RowKit Go.Proofs.Ytdcikbhfoplkmaa.Hp Go.Proofs.Ytdcikbhfoplkmaa.PH
set_option linter.unusedVariables false
set_option linter.unusedSimpArgs false

def plOk (P T R : Int) : Prop := 1 ≤ P ∧ P ≤ 32 ∧ 1 ≤ T ∧ T ≤ 6 ∧ 1 ≤ R ∧ R ≤ 16
instance (P T R : Int) : Decidable (plOk P T R) := by unfold plOk; exact inferInstance
theorem rp_right (P T R : Int) : layout_Plan_right.f P T R = some (decide (plOk P T R)) := by
  unfold layout_Plan_right.f
  by_cases h : plOk P T R
  · rw [decide_eq_true h]
    unfold plOk at h
    rw [if_pos (by omega), if_pos (by omega), if_pos (by omega), if_pos (by omega), if_pos (by omega)]
    exact congrArg some (decide_eq_true (by omega))
  · rw [decide_eq_false h]
    unfold plOk at h
    repeat' split
    all_goals first | rfl | exact congrArg some (decide_eq_false (by omega))
theorem rp_mul {t R : Int} (h0 : 0 ≤ t) (h1 : t < 6) (h2 : 1 ≤ R) (h3 : R ≤ 16) : wrap64 (t * wrap64 (5 + R)) = t * (5 + R) ∧ 0 ≤ t * (5 + R) ∧ t * (5 + R) ≤ 105 := by
  have e : wrap64 (5 + R) = 5 + R := by unfold wrap64; omega
  rw [e]
  have ht : t = 0 ∨ t = 1 ∨ t = 2 ∨ t = 3 ∨ t = 4 ∨ t = 5 := by omega
  rcases ht with rfl | rfl | rfl | rfl | rfl | rfl <;> refine ⟨?_, ?_, ?_⟩ <;> first | (unfold wrap64; omega) | omega
theorem rp_of (P T R t k : Int) (hk : 0 ≤ k ∧ k ≤ 30) : layout_Plan_of.f P T R t k = some (if plOk P T R ∧ 0 ≤ t ∧ t < T then 16 + t * (5 + R) + k else -1) := by
  unfold layout_Plan_of.f
  rw [rp_right]
  simp only [Option.bind_some, decide_eq_true_eq, layout_Plan_each.f]
  by_cases h : plOk P T R
  · rw [if_pos h]
    by_cases h0 : t < 0
    · rw [if_pos h0, if_neg (by omega)]
    · rw [if_neg h0]
      by_cases h1 : t ≥ T
      · rw [if_pos h1, if_neg (by omega)]
      · rw [if_neg h1, if_pos ⟨h, by omega, by omega⟩]
        have h' := h
        unfold plOk at h'
        obtain ⟨m1, m2, m3⟩ := rp_mul (t := t) (R := R) (by omega) (by omega) (by omega) (by omega)
        rw [m1]
        generalize t * (5 + R) = x at m2 m3 ⊢
        congr 1
        unfold wrap64
        omega
  · rw [if_neg h, if_neg (fun z => h z.1)]
theorem rp_ring (P T R t : Int) : ring_right.f P T R t = some (decide (plOk P T R ∧ 0 ≤ t ∧ t < T)) := by
  unfold ring_right.f layout_Plan_Status.f
  rw [rp_of P T R t 0 (by omega)]
  simp only [Option.bind_some]
  congr 1
  rw [decide_eq_decide]
  by_cases h : plOk P T R ∧ 0 ≤ t ∧ t < T
  · have h' := h.1
    unfold plOk at h'
    obtain ⟨m1, m2, m3⟩ := rp_mul (t := t) (R := R) (by omega) (by omega) (by omega) (by omega)
    rw [if_pos h]
    exact ⟨fun _ => h, fun _ => by omega⟩
  · rw [if_neg h]
    exact ⟨fun z => absurd z (by decide), fun z => absurd z h⟩
end Go.Proofs.Ytdcikbhfoplkmaa.Ar
/- The words that wait in any ring, whatever its head and tail are: ring.Waiting, the chapter's Waiting, the law's waits. -/
namespace Go.Proofs.Ytdcikbhfoplkmaa.Dd
open Go Go.RowKit Go.Proofs.Ytdcikbhfoplkmaa.Hp Go.Proofs.Ytdcikbhfoplkmaa.PH Go.Proofs.Ytdcikbhfoplkmaa.Ar Go.Proofs.Ytdcikbhfoplkmaa.Eo
open Go.Proofs.YtdcikbhfoplkmaaW.PrintWords (Kd rd Drawn0)
set_option linter.unusedVariables false
set_option linter.unusedSimpArgs false
set_option linter.unusedSectionVars false

def wHd (R t : Nat) (s : AS) : Int := s.cells.getD (16 + t * (5 + R) + 3) 0
def wTl (R t : Nat) (s : AS) : Int := s.cells.getD (16 + t * (5 + R) + 4) 0
def wD (R t : Nat) (s : AS) : Nat := (IntKind.u64.wrap (wTl R t s - wHd R t s)).toNat
def wAt (R t : Nat) (s : AS) (k : Nat) : Int := IntKind.u64.wrap (wHd R t s + k)
def wWord (R t : Nat) (s : AS) (k : Nat) : Int := s.cells.getD (16 + t * (5 + R) + 5 + (wAt R t s k % (R : Int)).toNat) 0
def wL (R t : Nat) (s : AS) (k : Nat) : List Int := (List.range k).map (wWord R t s)
def wR (R t : Nat) (s : AS) : List Int := if wD R t s ≤ R then wL R t s (wD R t s) else []
def wE (R t : Nat) (s : AS) : Int := if wD R t s ≤ R then 0 else 4
theorem wL_succ (R t : Nat) (s : AS) (k : Nat) : wL R t s (k + 1) = wL R t s k ++ [wWord R t s k] := by
  unfold wL
  rw [List.range_succ, List.map_append]
  rfl
theorem wL_len (R t : Nat) (s : AS) (k : Nat) : (wL R t s k).length = k := by simp [wL]
section
variable {P T R t : Nat} {s : AS}
theorem wD_eq : ((wD R t s : Nat) : Int) = IntKind.u64.wrap (wTl R t s - wHd R t s) := by
  unfold wD
  have := (wrap_range (wTl R t s - wHd R t s)).1
  omega
theorem wAt_0 (hc : Cw s) : wAt R t s 0 = wHd R t s := by
  have h := hc (16 + t * (5 + R) + 3)
  unfold wAt
  rw [u64w]
  show (wHd R t s + ((0 : Nat) : Int)) % _ = _
  unfold wHd
  omega
theorem wAt_succ (k : Nat) : IntKind.u64.wrap (wAt R t s k + 1) = wAt R t s (k + 1) := by
  unfold wAt
  rw [u64w, u64w, u64w]
  push_cast
  omega
theorem wAt_back (hc : Cw s) {k : Nat} (hk : k ≤ wD R t s) : IntKind.u64.wrap (wAt R t s k - wHd R t s) = k := by
  have h := hc (16 + t * (5 + R) + 3)
  have hD := wD_eq (R := R) (t := t) (s := s)
  have hr := wrap_range (wTl R t s - wHd R t s)
  unfold wAt
  rw [u64w, u64w]
  change 0 ≤ wHd R t s ∧ wHd R t s < _ at h
  omega
theorem wAt_end (hc : Cw s) {k : Nat} (hk : k ≤ wD R t s) : wAt R t s k = wTl R t s ↔ k = wD R t s := by
  have h := hc (16 + t * (5 + R) + 3)
  have h2 := hc (16 + t * (5 + R) + 4)
  change 0 ≤ wHd R t s ∧ wHd R t s < _ at h
  change 0 ≤ wTl R t s ∧ wTl R t s < _ at h2
  have hD := wD_eq (R := R) (t := t) (s := s)
  rw [u64w] at hD
  unfold wAt
  rw [u64w]
  omega
theorem wAt_add (k : Nat) (hk : (k : Int) < 18446744073709551616) : IntKind.u64.wrap (wHd R t s + (k : Int)) = wAt R t s k := rfl
theorem wAt_wd (k : Nat) : Wd (wAt R t s k) := wrap_range _
variable (hr : Lay.right P T R) (ht : t < T) (hk : ArOk (Lay.cl P T R) s)
include hr ht hk
theorem w_has {j : Nat} (hj : j < 5 + R) : s.has ((16 + t * (5 + R) + j : Nat) : Int) = true := decide_eq_true ⟨Int.natCast_nonneg _, by have := r_lt hr ht hj; rw [hk.len]; omega⟩
/-- The chapter's Waiting. -/
theorem ref_waiting (x y z : Int) : ∃ k, windrowref07_Waiting.f k s.cells P T R x y z t = some (wR R t s, wE R t s) := by
  have h3 := r_lt hr ht (j := 3) (by omega)
  have h4 := r_lt hr ht (j := 4) (by omega)
  have hR := hr.2.2.2.2
  have hu : IntKind.u64.wrap (R : Int) = R := u64i (by omega) (by omega)
  have hl : s.cells.length = Lay.cl P T R := hk.len
  have loop : ∀ d j : Nat, d = wD R t s - j → j ≤ wD R t s → wD R t s ≤ R → windrowref07_Waiting.l0 (d + 1) s.cells t (wHd R t s) (wTl R t s) (wL R t s j) j P T R x y z = some (wL R t s (wD R t s), 0) := by
    intro d
    induction d with
    | zero =>
      intro j hd hj hD
      obtain rfl : j = wD R t s := by omega
      simp only [windrowref07_Waiting.l0]
      rw [if_neg (by rw [← wD_eq]; omega)]
    | succ d ih =>
      intro j hd hj hD
      have hjj : j < wD R t s := by omega
      rw [windrowref07_Waiting.l0, if_pos (by rw [← wD_eq]; omega), wAt_add j (by omega), m_slot hr ht x y z (wAt_wd j).1]
      have e := (r_slot hr ht (wAt_wd (R := R) (t := t) (s := s) j)).2
      have h5 := r_lt hr ht (j := 5 + (wAt R t s j % (R : Int)).toNat) (by omega)
      simp only [Option.bind_some]
      rw [if_pos (Int.natCast_nonneg _), if_pos (by rw [hl]; omega), if_pos (by rw [wL_len]; omega), u64i (by omega) (by omega)]
      have e2 : rd s.cells ((16 + t * (5 + R) + 5 + (wAt R t s j % (R : Int)).toNat : Nat) : Int) = wWord R t s j := by
        unfold rd wWord
        rw [Int.toNat_natCast]
      rw [e2, ← wL_succ]
      have := ih (j + 1) (by omega) (by omega) hD
      push_cast at this
      exact this
  refine ⟨wD R t s + 1, ?_⟩
  unfold windrowref07_Waiting.f
  rw [m_head hr ht, Option.bind_some, if_pos (Int.natCast_nonneg _), if_pos (by rw [hl]; omega), m_tail hr ht, Option.bind_some, if_pos (Int.natCast_nonneg _), if_pos (by rw [hl]; omega)]
  have e3 : rd s.cells ((16 + t * (5 + R) + 3 : Nat) : Int) = wHd R t s := by unfold rd wHd; rw [Int.toNat_natCast]
  have e4 : rd s.cells ((16 + t * (5 + R) + 4 : Nat) : Int) = wTl R t s := by unfold rd wTl; rw [Int.toNat_natCast]
  rw [e3, e4, hu, ← wD_eq]
  unfold wR wE
  by_cases hD : wD R t s ≤ R
  · rw [if_neg (by omega), if_pos hD, if_pos hD]
    have := loop (wD R t s) 0 rfl (Nat.zero_le _) hD
    exact this
  · rw [if_pos (by omega), if_neg hD, if_neg hD]
end
theorem words_same (l : List Int) (hl : l.length ≤ 1000) : ∃ k, windrowref01_Words.f k l l = some true := by
  have h : ∀ (d i : Nat), d = l.length - i → i ≤ l.length → windrowref01_Words.l0 (d + 1) l l (i : Int) = some true := by
    intro d
    induction d with
    | zero =>
      intro i hd hi
      simp only [windrowref01_Words.l0]
      rw [if_neg (by omega)]
    | succ d ih =>
      intro i hd hi
      rw [windrowref01_Words.l0, if_pos (by omega), if_pos (by omega), if_pos (by omega), if_pos rfl, show wrap64 ((i : Int) + 1) = ((i + 1 : Nat) : Int) by unfold wrap64; omega]
      exact ih (i + 1) (by omega) (by omega)
  refine ⟨l.length + 1, ?_⟩
  unfold windrowref01_Words.f
  rw [if_pos rfl]
  exact h l.length 0 (by omega) (by omega)
theorem below_peek {w w' : World} (h : ∃ n, w' = w.drewN n) : Below w.heap.size w w' := by
  obtain ⟨n, rfl⟩ := h
  exact ⟨rfl, rfl, rfl, Nat.le_refl _, fun _ _ => rfl⟩
theorem peek_at {B : Nat} {w : World} {a c : Nat} {s : AS} {ps : List (Nat × Int × Bool)} (h : Ar.Sys B w a c s ps) {q : Nat} {x : Int} (hh : s.has (q : Int) = true) (hx : s.cells.getD q 0 = x) :
    Calls Try.prog 46 #[.pointer (some ⟨a, 0, none⟩), .int .i64 q] w fun e w' => e = .returned (.tuple #[.int .u64 x, .int .i64 0]) ∧ ∃ n, w' = w.drewN n := by
  have hp := h.peek (q : Int)
  rw [if_pos hh, if_pos hh, Int.toNat_natCast, hx] at hp
  exact hp
set_option maxHeartbeats 4000000 in
set_option maxRecDepth 100000 in
theorem waiting_any {B : Nat} {w : World} {a c P T R t : Nat} {s : AS} {ps : List (Nat × Int × Bool)} (hs : Ar.Sys B w a c s ps) (hr : Lay.right P T R) (ht : t < T) (hk : ArOk (Lay.cl P T R) s) :
    Calls Try.prog 20 #[.pointer (some ⟨a, 0, none⟩), .agg #[.int .i64 P, .int .i64 T, .int .i64 R], .int .i64 t] w fun e w' => ∃ v, e = .returned (.tuple #[v, .int .i64 (wE R t s)]) ∧ w'.ownsRow w.heap.size 24 1 v (wR R t s).length ((wR R t s).map (Value.int .u64)) ∧ Below w.heap.size w w' := by
  have HR := Lib.hid (show ring_right.f P T R t = some true by
    have h' := hr
    unfold Lay.right at h'
    rw [rp_ring, decide_eq_true (by unfold plOk; omega)])
  have HH := Lib.hid (r_head hr ht)
  have HT := Lib.hid (r_tail hr ht)
  have HSL : Hid (∀ k, layout_Plan_Slot.f P T R t (wAt R t s k) = some ((16 + t * (5 + R) + 5 + (wAt R t s k % (R : Int)).toNat : Nat) : Int) ∧ s.has ((16 + t * (5 + R) + 5 + (wAt R t s k % (R : Int)).toNat : Nat) : Int) = true) := Lib.hid (fun k => by
    obtain ⟨e1, e2⟩ := r_slot hr ht (wAt_wd (R := R) (t := t) (s := s) k)
    exact ⟨e1, by have h5 := w_has hr ht hk (j := 5 + (wAt R t s k % (R : Int)).toNat) (by omega); rwa [← Nat.add_assoc] at h5⟩)
  have HP := Lib.hid (And.intro hr.2.2.2.2.1 hr.2.2.2.2.2)
  have H3 := Lib.hid (w_has hr ht hk (j := 3) (by omega))
  have H4 := Lib.hid (w_has hr ht hk (j := 4) (by omega))
  have HC := Lib.hid hk.cw
  have KB : Hid ((w.alloc (.cells #[.int .i64 P, .int .i64 T, .int .i64 R] 39)).heap[w.heap.size]? = some (.cells #[.int .i64 P, .int .i64 T, .int .i64 R] 39 (0, 0))) := Lib.hid (Hp.blk_new w _)
  have HB := Lib.hid ((Below.refl w.heap.size w).alloc (Nat.le_refl _) (.cells #[.int .i64 P, .int .i64 T, .int .i64 R] 39))
  have HS := Lib.hid (hs.alloc (.cells #[.int .i64 P, .int .i64 T, .int .i64 R] 39))
  have HCL := Lib.hid hs.lt.2
  have z1 : IntKind.u64.wrap (R : Int) = R := u64i (by have := hr.2.2.2.2.1; omega) (by have := hr.2.2.2.2.2; omega)
  have z2 : IntKind.u64.wrap (wTl R t s - wHd R t s) = ((wD R t s : Nat) : Int) := wD_eq.symm
  have h0 := wAt_0 (R := R) (t := t) hk.cw
  have HA0 := Lib.hid h0
  obtain ⟨i0, hi0, hz0, hz1, hz2⟩ := info_parts infoU
  have HI := Lib.hid (And.intro hi0 (And.intro hz0 (And.intro hz1 hz2)))
  clear hs hr hk h0 hi0 hz0 hz1 hz2
  obtain ⟨hd, HHD⟩ : ∃ hd, Hid (hd = wHd R t s) := ⟨_, Lib.hid rfl⟩
  obtain ⟨tl, HTL⟩ : ∃ tl, Hid (tl = wTl R t s) := ⟨_, Lib.hid rfl⟩
  rw [← HHD.out, ← HTL.out] at z2
  obtain ⟨qh, HQH⟩ : ∃ qh : Nat, Hid (qh = 16 + t * (5 + R) + 3) := ⟨_, Lib.hid rfl⟩
  obtain ⟨qt, HQT⟩ : ∃ qt : Nat, Hid (qt = 16 + t * (5 + R) + 4) := ⟨_, Lib.hid rfl⟩
  rw [← HQH.out] at HH H3
  rw [← HQT.out] at HT H4
  have KH : Hid (s.cells.getD qh 0 = hd) := Lib.hid (by rw [HQH.out, HHD.out]; rfl)
  have KT : Hid (s.cells.getD qt 0 = tl) := Lib.hid (by rw [HQT.out, HTL.out]; rfl)
  obtain ⟨c0, -⟩ := Hp.blk_cell KB.out 0 rfl
  obtain ⟨c1, -⟩ := Hp.blk_cell KB.out 1 rfl
  obtain ⟨c2, -⟩ := Hp.blk_cell KB.out 2 rfl
  by_cases hD : wD R t s ≤ R
  · have z3 : ¬ (R : Int) < ((wD R t s : Nat) : Int) := by omega
    have HDR := Lib.hid hD
    have HE : Hid (wE R t s = 0 ∧ wR R t s = wL R t s (wD R t s)) := Lib.hid (by unfold wE wR; rw [if_pos hD, if_pos hD]; exact ⟨rfl, rfl⟩)
    clear hD
    have z4 : ¬ IntKind.u64.wrap (R : Int) < IntKind.u64.wrap (tl - hd) := by rw [z1, z2]; exact z3
    have z5 : decide (R < wD R t s) = false := decide_eq_false (by omega)
    go_enter Try.func20, Try.ntmps20
    go_upto_region 6 with (first
      | (go_at_call 42; go_loud ((with_reducible refine (ring_right.calls P T R t true _ HR.out).mono ?_); rintro e w9 ⟨rfl, hb⟩; clear c0 c1 c2; replace KB := Lib.hid (blk_below KB.out hb); replace HS := Lib.hid (HS.out.below hb); replace HB := Lib.hid (HB.out.trans (hb.mono HB.out.size)); clear hb; (obtain ⟨c0, -⟩ := Hp.blk_cell KB.out 0 rfl); (obtain ⟨c1, -⟩ := Hp.blk_cell KB.out 1 rfl); (obtain ⟨c2, -⟩ := Hp.blk_cell KB.out 2 rfl)))
      | (go_at_call 47; go_loud ((with_reducible refine (layout_Plan_Head.calls P T R t qh _ HH.out).mono ?_); rintro e w9 ⟨rfl, hb⟩; clear c0 c1 c2; replace KB := Lib.hid (blk_below KB.out hb); replace HS := Lib.hid (HS.out.below hb); replace HB := Lib.hid (HB.out.trans (hb.mono HB.out.size)); clear hb; (obtain ⟨c0, -⟩ := Hp.blk_cell KB.out 0 rfl); (obtain ⟨c1, -⟩ := Hp.blk_cell KB.out 1 rfl); (obtain ⟨c2, -⟩ := Hp.blk_cell KB.out 2 rfl)))
      | (go_at_call 46; go_loud ((have hp := peek_at HS.out (q := qh) H3.out KH.out); (with_reducible refine hp.mono ?_); clear hp; rintro e w8 ⟨rfl, hn⟩; (have hb := below_peek hn); clear hn; clear c0 c1 c2; replace KB := Lib.hid (blk_below KB.out hb); replace HS := Lib.hid (HS.out.below hb); replace HB := Lib.hid (HB.out.trans (hb.mono HB.out.size)); clear hb; (obtain ⟨c0, -⟩ := Hp.blk_cell KB.out 0 rfl); (obtain ⟨c1, -⟩ := Hp.blk_cell KB.out 1 rfl); (obtain ⟨c2, -⟩ := Hp.blk_cell KB.out 2 rfl))))
    go_upto_region 12 with (first
      | (go_at_call 48; go_loud ((with_reducible refine (layout_Plan_Tail.calls P T R t qt _ HT.out).mono ?_); rintro e w9 ⟨rfl, hb⟩; clear c0 c1 c2; replace KB := Lib.hid (blk_below KB.out hb); replace HS := Lib.hid (HS.out.below hb); replace HB := Lib.hid (HB.out.trans (hb.mono HB.out.size)); clear hb; (obtain ⟨c0, -⟩ := Hp.blk_cell KB.out 0 rfl); (obtain ⟨c1, -⟩ := Hp.blk_cell KB.out 1 rfl); (obtain ⟨c2, -⟩ := Hp.blk_cell KB.out 2 rfl)))
      | (go_at_call 46; go_loud ((have hp := peek_at HS.out (q := qt) H4.out KT.out); (with_reducible refine hp.mono ?_); clear hp; rintro e w8 ⟨rfl, hn⟩; (have hb := below_peek hn); clear hn; clear c0 c1 c2; replace KB := Lib.hid (blk_below KB.out hb); replace HS := Lib.hid (HS.out.below hb); replace HB := Lib.hid (HB.out.trans (hb.mono HB.out.size)); clear hb; (obtain ⟨c0, -⟩ := Hp.blk_cell KB.out 0 rfl); (obtain ⟨c1, -⟩ := Hp.blk_cell KB.out 1 rfl); (obtain ⟨c2, -⟩ := Hp.blk_cell KB.out 2 rfl))))
    clear c0 c1 c2
    go_wp2_with (fail)
    go_loopw [11, 12, 13, 14] (fun v11 v12 v13 v14 wr => ∃ k : Nat, k ≤ wD R t s ∧ v12 = .int .u64 (wAt R t s k) ∧ Hid (wr.ownsRow w.heap.size 24 1 v11 k ((wL R t s k).map (Value.int .u64))) ∧ Hid (Ar.Sys B wr a c s ps) ∧ Hid (wr.heap[w.heap.size]? = some (.cells #[.int .i64 P, .int .i64 T, .int .i64 R] 39 (0, 0))) ∧ Hid (Below w.heap.size w wr) ∧ True) (fun _ v12 _ _ _ => wD R t s - (IntKind.u64.wrap (intOf v12 - wHd R t s)).toNat)
    case atStart => exact ⟨0, Nat.zero_le _, by rw [HA0.out, HHD.out], Lib.hid (World.ownsRow_nil _ _ _ _), HS, KB, HB, trivial⟩
    case round =>
      obtain ⟨k, hk, rfl, HW, HS2, KB2, HB2, -⟩ := hrel
      clear HS KB HB
      have HS := HS2
      have KB := KB2
      have HB := HB2
      clear HS2 KB2 HB2
      (obtain ⟨c0, -⟩ := Hp.blk_cell KB.out 0 rfl); (obtain ⟨c1, -⟩ := Hp.blk_cell KB.out 1 rfl); (obtain ⟨c2, -⟩ := Hp.blk_cell KB.out 2 rfl)
      have HEN := Lib.hid (wAt_end HC.out hk)
      have HBK := Lib.hid (wAt_back HC.out hk)
      have HKK := Lib.hid hk
      by_cases hkD : k < wD R t s
      · have hne : (wAt R t s k != tl) = true := by
          rw [HTL.out, bne_iff_ne]
          exact fun e => by have := HEN.out.1 e; omega
        have HQ := Lib.hid (HSL.out k)
        obtain ⟨x, HX⟩ : ∃ x, Hid (s.cells.getD (16 + t * (5 + R) + 5 + (wAt R t s k % (R : Int)).toNat) 0 = x) := ⟨_, Lib.hid rfl⟩
        have HWS : Hid ((wL R t s (k + 1)).map (Value.int .u64) = (wL R t s k).map (Value.int .u64) ++ [.int .u64 x]) := Lib.hid (by rw [wL_succ, List.map_append, ← HX.out]; rfl)
        have hk16 : k ≤ 16 := by have := HP.out.2; have := HDR.out; omega
        have HNX := Lib.hid (wAt_succ (R := R) (t := t) (s := s) k)
        have HBK2 := Lib.hid (wAt_back (R := R) (t := t) HC.out (show k + 1 ≤ wD R t s by omega))
        clear hk
        obtain ⟨at_, HAT⟩ : ∃ at_, Hid (at_ = wAt R t s k) := ⟨_, Lib.hid rfl⟩
        rw [← HAT.out] at hne HQ HX ⊢
        rw [← HAT.out] at HNX
        obtain ⟨q, HQQ⟩ : ∃ q : Nat, Hid (q = 16 + t * (5 + R) + 5 + (at_ % (R : Int)).toNat) := ⟨_, Lib.hid rfl⟩
        rw [← HQQ.out] at HQ HX
        go_upto_region 18 with (first
          | (go_at_call 49; go_loud ((with_reducible refine (layout_Plan_Slot.calls P T R t at_ _ _ HQ.out.1).mono ?_); rintro e w9 ⟨rfl, hb⟩; clear c0 c1 c2; replace HW := Lib.hid (own_fr HW.out (S := fun _ => False) ⟨hb.os, hb.tape, hb.output, hb.size, fun k2 hk2 _ => hb.block k2 hk2⟩ (fun _ _ => id)); replace KB := Lib.hid (blk_below KB.out hb); replace HS := Lib.hid (HS.out.below hb); replace HB := Lib.hid (HB.out.trans (hb.mono HB.out.size)); clear hb; (obtain ⟨c0, -⟩ := Hp.blk_cell KB.out 0 rfl); (obtain ⟨c1, -⟩ := Hp.blk_cell KB.out 1 rfl); (obtain ⟨c2, -⟩ := Hp.blk_cell KB.out 2 rfl)))
          | (go_at_call 46; go_loud ((have hp := peek_at HS.out (q := q) HQ.out.2 HX.out); (with_reducible refine hp.mono ?_); clear hp; rintro e w8 ⟨rfl, hn⟩; (have hb := below_peek hn); clear hn; clear c0 c1 c2; replace HW := Lib.hid (own_fr HW.out (S := fun _ => False) ⟨hb.os, hb.tape, hb.output, hb.size, fun k2 hk2 _ => hb.block k2 hk2⟩ (fun _ _ => id)); replace KB := Lib.hid (blk_below KB.out hb); replace HS := Lib.hid (HS.out.below hb); replace HB := Lib.hid (HB.out.trans (hb.mono HB.out.size)); clear hb; (obtain ⟨c0, -⟩ := Hp.blk_cell KB.out 0 rfl); (obtain ⟨c1, -⟩ := Hp.blk_cell KB.out 1 rfl); (obtain ⟨c2, -⟩ := Hp.blk_cell KB.out 2 rfl))))
        go_wp2_with (first
          | (at_builtin; go_loud (refine wpList_append_own _ rfl _ _ 33 rfl w.heap.size 24 i0 _ 1 8 Try.underlying33 HI.out.1 HI.out.2.1 HI.out.2.2.1 HI.out.2.2.2 rfl (by decide) u11 k ((wL R t s k).map (Value.int .u64)) rfl (own_fr HW.out ((Fr.refl (fun _ => False) _).alloc _) (fun _ _ => id)) ⟨w8.heap.size, 0, none⟩ 1 1 [.int .u64 x] rfl rfl (World.news_of_block (Hp.blk_new w8 _)) (by simp [Value.oneCell']) (by unfold maxLen; omega) (by omega) (by have := HB.out.size; simp; omega) ?_; intro v6 w6 own6 grow6 _; (have e0 : Fr (fun k => u11.ownBlock = some k) w8 w6 := ((Fr.refl _ w8).alloc _).grown grow6 (fun k hk => .inl hk)); (have HKB6 := Lib.hid (e0.blk KB.out (fun z => by obtain ⟨⟨cs, h1⟩, _⟩ := own_touch2 HW.out _ z; exact blk_ne h1 KB.out (by decide) rfl))); (have HS6 := Lib.hid (HS.out.fr e0 (fun k2 _ hk2 => by obtain ⟨⟨cs, h1⟩, h2⟩ := own_touch2 HW.out k2 hk2; exact not_touch h1 (by have := HCL.out; omega) (by decide)))); (have HB6 := Lib.hid (HB.out.trans (b := w8) (c := w6) ⟨e0.os, e0.tape, e0.output, e0.size, fun k2 hk2 => e0.block k2 (Nat.lt_of_lt_of_le hk2 HB.out.size) (fun z => by have := (own_touch2 HW.out k2 z).2; omega)⟩)); (have HO6 := Lib.hid own6); clear own6 grow6 e0 HW HS KB HB c0 c1 c2)))
        go_roundw
        case rel => exact ⟨k + 1, by omega, by rw [HNX.out], Lib.hid (by rw [HWS.out]; exact HO6.out), HS6, HKB6, HB6, trivial⟩
        case measure => simp only [intOf]; rw [HNX.out, HBK2.out, HAT.out, HBK.out]; omega
      · have hkE : k = wD R t s := by omega
        have hne : (wAt R t s k != tl) = false := by
          rw [HTL.out, bne_eq_false_iff_eq]
          exact HEN.out.2 hkE
        have HKE := Lib.hid hkE
        clear hk hkD hkE
        go_wp2_with (fail)
        go_ret2
        rw [HE.out.1, HE.out.2, wL_len]
        rw [HKE.out] at HW
        exact ⟨_, rfl, HW.out, HB.out⟩
  · have z3 : (R : Int) < ((wD R t s : Nat) : Int) := by omega
    have HE : Hid (wE R t s = 4 ∧ wR R t s = []) := Lib.hid (by unfold wE wR; rw [if_neg hD, if_neg hD]; exact ⟨rfl, rfl⟩)
    clear hD
    have z4 : IntKind.u64.wrap (R : Int) < IntKind.u64.wrap (tl - hd) := by rw [z1, z2]; exact z3
    go_enter Try.func20, Try.ntmps20
    go_upto_region 6 with (first
      | (go_at_call 42; go_loud ((with_reducible refine (ring_right.calls P T R t true _ HR.out).mono ?_); rintro e w9 ⟨rfl, hb⟩; clear c0 c1 c2; replace KB := Lib.hid (blk_below KB.out hb); replace HS := Lib.hid (HS.out.below hb); replace HB := Lib.hid (HB.out.trans (hb.mono HB.out.size)); clear hb; (obtain ⟨c0, -⟩ := Hp.blk_cell KB.out 0 rfl); (obtain ⟨c1, -⟩ := Hp.blk_cell KB.out 1 rfl); (obtain ⟨c2, -⟩ := Hp.blk_cell KB.out 2 rfl)))
      | (go_at_call 47; go_loud ((with_reducible refine (layout_Plan_Head.calls P T R t qh _ HH.out).mono ?_); rintro e w9 ⟨rfl, hb⟩; clear c0 c1 c2; replace KB := Lib.hid (blk_below KB.out hb); replace HS := Lib.hid (HS.out.below hb); replace HB := Lib.hid (HB.out.trans (hb.mono HB.out.size)); clear hb; (obtain ⟨c0, -⟩ := Hp.blk_cell KB.out 0 rfl); (obtain ⟨c1, -⟩ := Hp.blk_cell KB.out 1 rfl); (obtain ⟨c2, -⟩ := Hp.blk_cell KB.out 2 rfl)))
      | (go_at_call 46; go_loud ((have hp := peek_at HS.out (q := qh) H3.out KH.out); (with_reducible refine hp.mono ?_); clear hp; rintro e w8 ⟨rfl, hn⟩; (have hb := below_peek hn); clear hn; clear c0 c1 c2; replace KB := Lib.hid (blk_below KB.out hb); replace HS := Lib.hid (HS.out.below hb); replace HB := Lib.hid (HB.out.trans (hb.mono HB.out.size)); clear hb; (obtain ⟨c0, -⟩ := Hp.blk_cell KB.out 0 rfl); (obtain ⟨c1, -⟩ := Hp.blk_cell KB.out 1 rfl); (obtain ⟨c2, -⟩ := Hp.blk_cell KB.out 2 rfl))))
    go_wp2_with (first
      | (go_at_call 48; go_loud ((with_reducible refine (layout_Plan_Tail.calls P T R t qt _ HT.out).mono ?_); rintro e w9 ⟨rfl, hb⟩; clear c0 c1 c2; replace KB := Lib.hid (blk_below KB.out hb); replace HS := Lib.hid (HS.out.below hb); replace HB := Lib.hid (HB.out.trans (hb.mono HB.out.size)); clear hb; (obtain ⟨c0, -⟩ := Hp.blk_cell KB.out 0 rfl); (obtain ⟨c1, -⟩ := Hp.blk_cell KB.out 1 rfl); (obtain ⟨c2, -⟩ := Hp.blk_cell KB.out 2 rfl)))
      | (go_at_call 46; go_loud ((have hp := peek_at HS.out (q := qt) H4.out KT.out); (with_reducible refine hp.mono ?_); clear hp; rintro e w8 ⟨rfl, hn⟩; (have hb := below_peek hn); clear hn; clear c0 c1 c2; replace KB := Lib.hid (blk_below KB.out hb); replace HS := Lib.hid (HS.out.below hb); replace HB := Lib.hid (HB.out.trans (hb.mono HB.out.size)); clear hb; (obtain ⟨c0, -⟩ := Hp.blk_cell KB.out 0 rfl); (obtain ⟨c1, -⟩ := Hp.blk_cell KB.out 1 rfl); (obtain ⟨c2, -⟩ := Hp.blk_cell KB.out 2 rfl))))
    go_ret2
    rw [HE.out.1, HE.out.2]
    exact ⟨_, rfl, World.ownsRow_nil _ _ _ _, HB.out⟩
end Go.Proofs.Ytdcikbhfoplkmaa.Dd
/- The law's waits, walked: all rings have the words that the chapter says. -/
namespace Go.Proofs.Ytdcikbhfoplkmaa.Dd
open Go Go.RowKit Go.Proofs.Ytdcikbhfoplkmaa.Hp Go.Proofs.Ytdcikbhfoplkmaa.PH Go.Proofs.Ytdcikbhfoplkmaa.Ar Go.Proofs.Ytdcikbhfoplkmaa.Eo
open Go.Proofs.YtdcikbhfoplkmaaW.PrintWords (Kd rd Drawn0)
set_option linter.unusedVariables false
set_option linter.unusedSimpArgs false
set_option linter.unusedSectionVars false

theorem rowC {B e : Nat} {w : World} {v : Value} {k : IntKind} {xs : List Int} (h : w.ownsRow B e 1 v xs.length (xs.map (Value.int k))) : ∃ A cap, v = .slice A xs.length cap ∧ xs.length ≤ cap ∧ Kd.C (Kd.int k) w A xs.length xs := by
  obtain ⟨A, c, rfl, hr⟩ := Go.Proofs.YtdcikbhfoplkmaaW.PrintWords.own_reads h
  exact ⟨A, c, rfl, Go.Proofs.YtdcikbhfoplkmaaW.PrintWords.own_cap h, Kd.C_of_reads (d := (0 : Int)) (h1 := fun _ => rfl) hr⟩
theorem mcel {B : Nat} {w : World} {a c m c2 : Nat} {s t : AS} {ps qs : List (Nat × Int × Bool)} (h : Duo B w a c s ps m c2 t qs) : w.cell? ⟨m, 0, none⟩ = some (.slice (some ⟨c2, 0, none⟩) t.cells.length t.cells.length) ∧ Kd.C (Kd.int .u64) w (some ⟨c2, 0, none⟩) t.cells.length t.cells := by
  obtain ⟨lv, lv2, hA, hM, hd⟩ := h.both
  refine ⟨(Hp.blk_cell hM.blk 0 rfl).1, rfl, by have := hM.small; omega, fun _ => ⟨_, rfl, fun j p hp => ?_⟩⟩
  have hx := List.getElem?_eq_some_iff.1 hp
  obtain ⟨hj, hx⟩ := hx
  have h2 : w.cell? ⟨c2, j, none⟩ = some (.int .u64 p) := (Hp.blk_cell hM.cel j (by simp [hp])).1
  refine ⟨[.int .u64 p], rfl, rfl, fun i u hu => ?_⟩
  match i, hu with
  | 0, hu =>
    have hu : some (Value.int .u64 p) = some u := hu
    rw [← hu]
    have ha : (⟨c2, 0, none⟩ : Addr).add (j * (Kd.int .u64).sz + 0) = ⟨c2, j, none⟩ := by
      rw [show j * (Kd.int .u64).sz + 0 = j from Nat.mul_one j]
      simp [Addr.add]
      rintro rfl
      rfl
    rw [ha, h2]
theorem wR_len {R t : Nat} {s : AS} (hR : R ≤ 16) : (wR R t s).length ≤ 16 := by
  unfold wR
  split
  · rw [wL_len]; omega
  · simp
set_option maxHeartbeats 4000000 in
set_option maxRecDepth 100000 in
theorem waits_true {B : Nat} {w : World} {a c am cc P T R : Nat} {s : AS} {ps qs : List (Nat × Int × Bool)} (hd : Duo B w a c s ps am cc s qs) (hr : Lay.right P T R) (hk : ArOk (Lay.cl P T R) s) :
    Calls Try.prog 40 #[.pointer (some ⟨a, 0, none⟩), .pointer (some ⟨am, 0, none⟩), .agg #[.int .i64 P, .int .i64 T, .int .i64 R]] w fun e w' => e = .returned (.bool true) ∧ Below w.heap.size w w' := by
  have HD := Lib.hid (hd.alloc (.cells #[.int .i64 P, .int .i64 T, .int .i64 R] 23))
  have HRT := Lib.hid hr
  have HK := Lib.hid hk
  have KQ : Hid ((w.alloc (.cells #[.int .i64 P, .int .i64 T, .int .i64 R] 23)).heap[w.heap.size]? = some (.cells #[.int .i64 P, .int .i64 T, .int .i64 R] 23 (0, 0))) := Lib.hid (Hp.blk_new w _)
  have HB := Lib.hid ((Below.refl w.heap.size w).alloc (Nat.le_refl _) (.cells #[.int .i64 P, .int .i64 T, .int .i64 R] 23))
  obtain ⟨K, hK0⟩ := Lay.draw_ev hr
  have HDr : Hid (windrowref06_Draw.f K P T R = some ((P : Int), (T : Int), (R : Int), ((Lay.bs P T R : Nat) : Int), ((Lay.tb T R : Nat) : Int), ((Lay.cl P T R : Nat) : Int))) := Lib.hid (hK0 K (Nat.le_refl _))
  have hT6 := hr.2.2.2.1
  clear hd hr hk hK0
  obtain ⟨c0, d0⟩ := Hp.blk_cell KQ.out 0 rfl
  obtain ⟨c1, d1⟩ := Hp.blk_cell KQ.out 1 rfl
  obtain ⟨c2, d2⟩ := Hp.blk_cell KQ.out 2 rfl
  go_enter Try.func40, Try.ntmps40
  go_upto_region 2 with (first
    | (go_at_call 15; go_loud ((with_reducible refine (windrowref06_Draw.calls K P T R _ _ _ _ _ _ _ HDr.out).mono ?_); rintro e w6 ⟨rfl, hb⟩; clear c0 c1 c2 d0 d1 d2; replace KQ := Lib.hid (blk_below KQ.out hb); replace HD := Lib.hid (HD.out.below hb); replace HB := Lib.hid (HB.out.trans (hb.mono HB.out.size)); (obtain ⟨c0, d0⟩ := Hp.blk_cell KQ.out 0 rfl); (obtain ⟨c1, d1⟩ := Hp.blk_cell KQ.out 1 rfl); (obtain ⟨c2, d2⟩ := Hp.blk_cell KQ.out 2 rfl); clear hb)))
  clear c0 c1 c2 d0 d1 d2
  have KD : Hid ((w6.alloc (.cells #[.int .i64 P, .int .i64 T, .int .i64 R, .int .i64 (Lay.bs P T R : Nat), .int .i64 (Lay.tb T R : Nat), .int .i64 (Lay.cl P T R : Nat)] 43)).heap[w6.heap.size]? = some (.cells #[.int .i64 P, .int .i64 T, .int .i64 R, .int .i64 (Lay.bs P T R : Nat), .int .i64 (Lay.tb T R : Nat), .int .i64 (Lay.cl P T R : Nat)] 43 (0, 0))) := Lib.hid (Hp.blk_new w6 _)
  replace KQ := Lib.hid (Hp.blk_alloc KQ.out (.cells #[.int .i64 P, .int .i64 T, .int .i64 R, .int .i64 (Lay.bs P T R : Nat), .int .i64 (Lay.tb T R : Nat), .int .i64 (Lay.cl P T R : Nat)] 43))
  replace HD := Lib.hid (HD.out.alloc (.cells #[.int .i64 P, .int .i64 T, .int .i64 R, .int .i64 (Lay.bs P T R : Nat), .int .i64 (Lay.tb T R : Nat), .int .i64 (Lay.cl P T R : Nat)] 43))
  replace HB := Lib.hid (HB.out.alloc HB.out.size (.cells #[.int .i64 P, .int .i64 T, .int .i64 R, .int .i64 (Lay.bs P T R : Nat), .int .i64 (Lay.tb T R : Nat), .int .i64 (Lay.cl P T R : Nat)] 43))
  generalize w6.heap.size = db at KD ⊢
  generalize w6.alloc (.cells #[.int .i64 P, .int .i64 T, .int .i64 R, .int .i64 (Lay.bs P T R : Nat), .int .i64 (Lay.tb T R : Nat), .int .i64 (Lay.cl P T R : Nat)] 43) = w7 at KD KQ HD HB ⊢
  go_wp2_with (fail)
  go_loopw [8] (fun v8 wr => ∃ k : Nat, k ≤ T ∧ v8 = .int .i64 k ∧ Hid (Duo B wr a c s ps am cc s qs) ∧ Hid (wr.heap[w.heap.size]? = some (.cells #[.int .i64 P, .int .i64 T, .int .i64 R] 23 (0, 0))) ∧ Hid (wr.heap[db]? = some (.cells #[.int .i64 P, .int .i64 T, .int .i64 R, .int .i64 (Lay.bs P T R : Nat), .int .i64 (Lay.tb T R : Nat), .int .i64 (Lay.cl P T R : Nat)] 43 (0, 0))) ∧ Hid (Below w.heap.size w wr)) (fun v8 _ => 8 - (intOf v8).toNat)
  case atStart => exact ⟨0, Nat.zero_le _, rfl, HD, KQ, KD, HB⟩
  case round =>
    clear HD KQ KD HB
    obtain ⟨k, hk, rfl, HD, KQ, KD, HB⟩ := hrel
    obtain ⟨c0, d0⟩ := Hp.blk_cell KQ.out 0 rfl
    obtain ⟨c1, d1⟩ := Hp.blk_cell KQ.out 1 rfl
    obtain ⟨c2, d2⟩ := Hp.blk_cell KQ.out 2 rfl
    by_cases hkT : k < T
    · have h1 : (k : Int) < (T : Int) := by omega
      have HKT := Lib.hid hkT
      obtain ⟨kw, hkw⟩ := ref_waiting HRT.out hkT HK.out (Lay.bs P T R : Nat) (Lay.tb T R : Nat) (Lay.cl P T R : Nat)
      have HKW := Lib.hid hkw
      obtain ⟨kk, hkk⟩ := words_same (wR R k s) (Nat.le_trans (wR_len HRT.out.2.2.2.2.2) (by decide))
      have HKK := Lib.hid hkk
      clear hkT hkw hkk hk
      go_upto_region 6 with (first
        | (go_at_call 13; go_loud ((with_reducible refine (windrowlaw07_plan.calls P T R P T R _ rfl).mono ?_); rintro e w9 ⟨rfl, hb⟩; clear c0 c1 c2 d0 d1 d2; replace KQ := Lib.hid (blk_below KQ.out hb); replace KD := Lib.hid (blk_below KD.out hb); replace HD := Lib.hid (HD.out.below hb); replace HB := Lib.hid (HB.out.trans (hb.mono HB.out.size)); (obtain ⟨c0, d0⟩ := Hp.blk_cell KQ.out 0 rfl); (obtain ⟨c1, d1⟩ := Hp.blk_cell KQ.out 1 rfl); (obtain ⟨c2, d2⟩ := Hp.blk_cell KQ.out 2 rfl); clear hb))
        | (go_at_call 20; go_loud ((with_reducible refine (waiting_any HD.out.sys HRT.out HKT.out HK.out).mono ?_); rintro e w10 ⟨v, rfl, hown, hb⟩; clear c0 c1 c2 d0 d1 d2; replace KQ := Lib.hid (blk_below KQ.out hb); replace KD := Lib.hid (blk_below KD.out hb); replace HD := Lib.hid (HD.out.below hb); replace HB := Lib.hid (HB.out.trans (hb.mono HB.out.size)); (obtain ⟨c0, d0⟩ := Hp.blk_cell KQ.out 0 rfl); (obtain ⟨c1, d1⟩ := Hp.blk_cell KQ.out 1 rfl); (obtain ⟨c2, d2⟩ := Hp.blk_cell KQ.out 2 rfl); (obtain ⟨A1, cap1, rfl, hle1, hC1⟩ := rowC hown); (have HC1 := Lib.hid hC1); (have HL1 := Lib.hid hle1); clear hb hown hC1 hle1)))
      clear c0 c1 c2 d0 d1 d2
      go_cut [11, 12] from 29 to 38 (fun va vb wc => ∃ A2 cap2, va = .slice A2 (wR R k s).length cap2 ∧ vb = .int .i64 (wE R k s) ∧ Hid ((wR R k s).length ≤ cap2 ∧ Kd.C (Kd.int .u64) wc A2 (wR R k s).length (wR R k s)) ∧ Hid (Below w10.heap.size w10 wc))
      case first =>
        have HM := Lib.hid (mcel HD.out)
        refine Rg.Upto.start (fun w' => Below w10.heap.size w10 w') 1000 (by kernel_rfl) ((Below.refl _ _).drew) (fun HS0 => ?_)
        have HSC := HS0
        clear HS0
        refine Rg.Upto.takeA (i := 0) (v := ?_) rfl (by kernel_rfl) (by kernel_rfl) (by kernel_rfl) (of_decide_eq_true (by kernel_rfl)) (fun _ _ _ h => h) (by rfl) (fun w5 hS5 => ?_) HSC ?_
        rotate_left
        · clear hS5
          go_simp
          try rfl
        try simp only [Act.put, List.setIfInBounds_toArray, List.set_cons_zero, List.set_cons_succ]
        refine Rg.Upto.takeA (i := 1) (v := ?_) rfl (by kernel_rfl) (by kernel_rfl) (by kernel_rfl) (of_decide_eq_true (by kernel_rfl)) (fun _ _ _ h => h) (by rfl) (fun w5 hS5 => ?_) HSC ?_
        rotate_left
        · clear hS5
          go_simp
          try rfl
        try simp only [Act.put, List.setIfInBounds_toArray, List.set_cons_zero, List.set_cons_succ]
        refine Rg.Upto.takeA (i := 2) (v := ?_) rfl (by kernel_rfl) (by kernel_rfl) (by kernel_rfl) (of_decide_eq_true (by kernel_rfl)) (fun _ _ _ h => h) (by rfl) (fun w5 hS5 => ?_) HSC ?_
        rotate_left
        · clear hS5
          go_simp
          try rfl
        try simp only [Act.put, List.setIfInBounds_toArray, List.set_cons_zero, List.set_cons_succ]
        refine Rg.Upto.takeA (i := 3) (v := ?_) rfl (by kernel_rfl) (by kernel_rfl) (by kernel_rfl) (of_decide_eq_true (by kernel_rfl)) (fun _ _ _ h => h) (by rfl) (fun w5 hS5 => ?_) HSC ?_
        rotate_left
        · have m0 := (hS5.cell (World.block_lt_of_cell? _ _ HM.out.1)).trans HM.out.1
          clear hS5
          go_simp
          try rfl
        try simp only [Act.put, List.setIfInBounds_toArray, List.set_cons_zero, List.set_cons_succ]
        refine Rg.Upto.takeA (i := 4) (v := ?_) rfl (by kernel_rfl) (by kernel_rfl) (by kernel_rfl) (of_decide_eq_true (by kernel_rfl)) (fun _ _ _ h => h) (by rfl) (fun w5 hS5 => ?_) HSC ?_
        rotate_left
        · have hd5 := blk_below KD.out hS5
          have e0 := (Hp.blk_cell hd5 0 rfl).1
          have e1 := (Hp.blk_cell hd5 1 rfl).1
          have e2 := (Hp.blk_cell hd5 2 rfl).1
          have e3 := (Hp.blk_cell hd5 3 rfl).1
          have e4 := (Hp.blk_cell hd5 4 rfl).1
          have e5 := (Hp.blk_cell hd5 5 rfl).1
          clear hS5
          go_simp
          try rfl
        try simp only [Act.put, List.setIfInBounds_toArray, List.set_cons_zero, List.set_cons_succ]
        refine Rg.Upto.takeA (i := 5) (v := ?_) rfl (by kernel_rfl) (by kernel_rfl) (by kernel_rfl) (of_decide_eq_true (by kernel_rfl)) (fun _ _ _ h => h) (by rfl) (fun w5 hS5 => ?_) HSC ?_
        rotate_left
        · clear hS5
          go_simp
          try rfl
        try simp only [Act.put, List.setIfInBounds_toArray, List.set_cons_zero, List.set_cons_succ]
        refine Rg.Upto.one (i := 6) rfl (by kernel_rfl) (by rfl) (fun KK hK => ?_)
        go_simp
        (with_reducible refine (windrowref07_Waiting.calls kw (some ⟨cc, 0, none⟩) s.cells.length s.cells P T R _ _ _ k _ _ _ (Kd.C_below HM.out.2 HSC) (Nat.le_refl _) HKW.out).mono ?_)
        rintro e w11 ⟨v2, rfl, hR2, hb⟩
        obtain ⟨A2, cap2, rfl, hle2, hC2⟩ := Go.Proofs.YtdcikbhfoplkmaaW.PrintWords.Kd.R_reads hR2
        have HC2 := Lib.hid (And.intro hle2 hC2)
        have HSC2 := HSC.trans (hb.mono HSC.size)
        refine hK.out _ _ HSC2 ?_
        clear hK KK HSC hR2 hb hle2 hC2
        have HSC := HSC2
        clear HSC2
        try simp only [Act.put, List.setIfInBounds_toArray, List.set_cons_zero, List.set_cons_succ]
        refine Rg.Upto.takeA (i := 7) (v := ?_) rfl (by kernel_rfl) (by kernel_rfl) (by kernel_rfl) (of_decide_eq_true (by kernel_rfl)) (fun _ _ _ h => h) (by rfl) (fun w5 hS5 => ?_) HSC ?_
        rotate_left
        · clear hS5
          go_simp
          try rfl
        try simp only [Act.put, List.setIfInBounds_toArray, List.set_cons_zero, List.set_cons_succ]
        refine Rg.Upto.takeA (i := 8) (v := ?_) rfl (by kernel_rfl) (by kernel_rfl) (by kernel_rfl) (of_decide_eq_true (by kernel_rfl)) (fun _ _ _ h => h) (by rfl) (fun w5 hS5 => ?_) HSC ?_
        rotate_left
        · clear hS5
          go_simp
          try rfl
        try simp only [Act.put, List.setIfInBounds_toArray, List.set_cons_zero, List.set_cons_succ]
        refine Rg.Upto.takeA (i := 9) (v := ?_) rfl (by kernel_rfl) (by kernel_rfl) (by kernel_rfl) (of_decide_eq_true (by kernel_rfl)) (fun _ _ _ h => h) (by rfl) (fun w5 hS5 => ?_) HSC ?_
        rotate_left
        · clear hS5
          go_simp
          try rfl
        try simp only [Act.put, List.setIfInBounds_toArray, List.set_cons_zero, List.set_cons_succ]
        refine Rg.Upto.takeA (i := 10) (v := ?_) rfl (by kernel_rfl) (by kernel_rfl) (by kernel_rfl) (of_decide_eq_true (by kernel_rfl)) (fun _ _ _ h => h) (by rfl) (fun w5 hS5 => ?_) HSC ?_
        rotate_left
        · clear hS5
          go_simp
          try rfl
        try simp only [Act.put, List.setIfInBounds_toArray, List.set_cons_zero, List.set_cons_succ]
        refine Rg.Upto.takeA (i := 11) (v := ?_) rfl (by kernel_rfl) (by kernel_rfl) (by kernel_rfl) (of_decide_eq_true (by kernel_rfl)) (fun _ _ _ h => h) (by rfl) (fun w5 hS5 => ?_) HSC ?_
        rotate_left
        · clear hS5
          go_simp
          try rfl
        try simp only [Act.put, List.setIfInBounds_toArray, List.set_cons_zero, List.set_cons_succ]
        refine Rg.Upto.done (by kernel_rfl) ?_
        go_wp2_with (fail)
        go_meet
        exact ⟨A2, cap2, rfl, rfl, HC2, Lib.hid HSC⟩
      case rest =>
        obtain ⟨A2, cap2, rfl, rfl, HC2, HSC⟩ := hcut
        have HM := Lib.hid (windrowref01_Words.calls kk A1 cap1 (wR R k s) A2 cap2 (wR R k s) true wc (Kd.C_below HC1.out HSC.out) HL1.out HC2.out.2 HC2.out.1 HKK.out)
        have hb := HSC.out
        replace KQ := Lib.hid (blk_below KQ.out hb)
        replace KD := Lib.hid (blk_below KD.out hb)
        replace HD := Lib.hid (HD.out.below hb)
        replace HB := Lib.hid (HB.out.trans (hb.mono HB.out.size))
        clear hb HC1 HC2 HSC HL1
        go_wp2_with (first
          | (go_at_call 62; go_loud ((with_reducible refine HM.out.mono ?_); clear HM; rintro e w12 ⟨rfl, hd0⟩; (have hb := hd0.below); replace KQ := Lib.hid (blk_below KQ.out hb); replace KD := Lib.hid (blk_below KD.out hb); replace HD := Lib.hid (HD.out.below hb); replace HB := Lib.hid (HB.out.trans (hb.mono HB.out.size)); clear hb hd0)))
        go_roundw
        case rel => exact ⟨k + 1, by have := HKT.out; omega, by go_num, HD, KQ, KD, HB⟩
        case measure => simp [intOf]; have := HKT.out; omega
    · have h1 : ¬ (k : Int) < (T : Int) := by omega
      clear hkT hk
      go_wp2_with (fail)
      go_ret
      exact ⟨rfl, HB.out⟩
end Go.Proofs.Ytdcikbhfoplkmaa.Dd

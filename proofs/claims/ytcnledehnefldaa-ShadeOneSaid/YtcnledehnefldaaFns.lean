/- A shade is stepped to its end; shaded is true. -/
import Derived.Test.YtcnledehnefldaaFsh
namespace Go.Proofs.Ytcnledehnefldaa.Ar
open Go Go.RowKit Go.Proofs.Ytcnledehnefldaa.Hp Go.Proofs.Ytcnledehnefldaa.PH
set_option linter.unusedVariables false
set_option linter.unusedSimpArgs false

set_option maxHeartbeats 2000000 in
set_option maxRecDepth 100000 in
theorem finish_n {B : Nat} {w : World} {a c p : Nat} {s : AS} {who : Int} {g : Bool} {ps : List (Nat × Int × Bool)} (hs : Sys B w a c s ps) (i : Nat) (hi : ps[i]? = some (p, who, g)) {m mk pu : Nat} {x : SS} (hx : IsShade w m mk pu x) (hB : B ≤ m ∧ B ≤ mk ∧ B ≤ pu) (hok : x.ok) {L : Pl} (hL : PlOk L x)
    (n : Nat) (h1 : 1 ≤ n) (h6 : n ≤ 6) (hn : (shRun L who s x n).2.at_ = 3) (hlt : ∀ k, k < n → (shRun L who s x k).2.at_ ≠ 3)
    (hS : ∀ k, k < n → (shRun L who s x k).2.at_ = 1 → (shRun L who s x k).2.pat = 2 → layout_Plan_Slot.f x.P x.T x.R x.t (shRun L who s x k).2.tl = some (L.qS (shRun L who s x k).2.tl)) (hl : s.log.length ≤ 1000) :
    Calls Try.prog 30 #[.pointer (some ⟨p, 0, none⟩), .pointer (some ⟨m, 0, none⟩)] w fun e w' => e = .returned (.int .i64 n) ∧ IsShade w' m mk pu (shRun L who s x n).2 ∧ (∃ ps', ps'[i]? = some (p, who, false) ∧ ps'.length = ps.length ∧ Sys B w' a c (shRun L who s x n).1 ps') ∧ Below B w w' ∧ Fr (ShTouch c m mk pu w) w w' := by
  have HSL : Hid (∀ k, k < n → (shRun L who s x k).2.at_ = 1 → (shRun L who s x k).2.pat = 2 → layout_Plan_Slot.f (shRun L who s x k).2.P (shRun L who s x k).2.T (shRun L who s x k).2.R (shRun L who s x k).2.t (shRun L who s x k).2.tl = some (L.qS (shRun L who s x k).2.tl)) := Lib.hid (fun k hk a1 a2 => by
    obtain ⟨e1, e2, e3, e4, _⟩ := shRun_same L who s x k
    rw [e1, e2, e3, e4]
    exact hS k hk a1 a2)
  have KS := Lib.hid hs
  have KI := Lib.hid hi
  have KX := Lib.hid hx
  have HBm := Lib.hid hB
  have HOK := Lib.hid hok
  have HPL := Lib.hid hL
  have HN := Lib.hid hn
  have HLT := Lib.hid hlt
  have KL := Lib.hid hl
  have KB := Lib.hid (Below.refl B w)
  have KF := Lib.hid (Fr.refl (ShTouch c m mk pu w) w)
  clear hs hi hx hB hok hL hn hlt hS hl
  go_enter Try.func30, Try.ntmps30
  go_wp2_with (fail)
  go_loopw [5] (fun v5 wr => ∃ (k : Nat) (g' : Bool) (ps' : List (Nat × Int × Bool)), k < n ∧ v5 = .int .i64 ((k : Int) + 1) ∧ Hid (ps'[i]? = some (p, who, g')) ∧ Hid (ps'.length = ps.length) ∧ Hid (Sys B wr a c (shRun L who s x k).1 ps') ∧ Hid (IsShade wr m mk pu (shRun L who s x k).2) ∧ Hid (Below B w wr) ∧ Hid (Fr (ShTouch c m mk pu w) w wr)) (fun v5 _ => 8 - (intOf v5).toNat)
  case atStart => exact ⟨0, g, ps, by omega, rfl, KI, Lib.hid rfl, KS, KX, KB, KF⟩
  case round =>
    obtain ⟨k, g', ps', hk, rfl, HI, HLen, HS, HX, HB, HF⟩ := hrel
    clear KI KS KX KB KF
    have HLn := Lib.hid (by have h1 := shRun_len L who s x k; have h2 := KL.out; omega : (shRun L who s x k).1.log.length ≤ 1000000)
    have HL3 : Hid (((ps'.set i (p, who, true)).set i (p, who, false)).length = ps.length) := Lib.hid (by rw [List.length_set, List.length_set]; exact HLen.out)
    by_cases hkn : k + 1 = n
    · have hd : decide ((shStep L who (shRun L who s x k).1 (shRun L who s x k).2).2.at_ = 3) = true := decide_eq_true (by have := HN.out; rw [← hkn] at this; exact this)
      go_wp2_with (first
        | (go_at_call 29; ((have hm := HS.out.grant i HI.out); refine hm.mono ?_; clear hm; rintro e w2 ⟨rfl, hD⟩; (have hnt := HX.out.free HS.out); (have HX2 := Lib.hid (HX.out.fr hD.fr hnt.1 hnt.2.1 hnt.2.2)); (have HS2 := Lib.hid hD.sys); (have HI2 := Lib.hid (set_get2 (y := (p, who, true)) HI.out)); replace HB := Lib.hid (HB.out.trans hD.bel); (have hF2 := HF.out.then hD.fr (fun k hk ht => shTouch_back HF.out k hk (.inr (.inr (.inr ht))))); clear HF; (have HF := Lib.hid hF2); clear hD hF2 hnt))
        | (go_at_call 17; ((have hm := shade_step HS2.out i HI2.out HX2.out HBm.out (shRun_ok L who s HOK.out k) (HLT.out k hk) (shRun_pl HPL.out k) (HSL.out k hk) (by have := HLn.out; omega)); rw [hd] at hm; refine hm.mono ?_; clear hm; rintro e w3 ⟨rfl, hX, hS, hb, hF⟩; (have HX3 : Hid (IsShade w3 m mk pu (shRun L who s x (k + 1)).2) := Lib.hid hX); (have HS3 : Hid (Sys B w3 a c (shRun L who s x (k + 1)).1 _) := Lib.hid hS); (have HI3 := Lib.hid (set_get2 (y := (p, who, false)) HI2.out)); replace HB := Lib.hid (HB.out.trans hb); (have hF2 := HF.out.then hF (fun k' hk' ht => shTouch_back HF.out k' hk' ht)); clear HF; (have HF := Lib.hid hF2); clear hX hS hb hF hF2)))
      go_ret
      have e1 : ((k : Int) + 1) = (n : Int) := by omega
      rw [e1]
      rw [hkn] at HX3 HS3
      exact ⟨rfl, HX3.out, ⟨_, HI3.out, HL3.out, HS3.out⟩, HB.out, HF.out⟩
    · have hd : decide ((shStep L who (shRun L who s x k).1 (shRun L who s x k).2).2.at_ = 3) = false := decide_eq_false (fun e => HLT.out (k + 1) (by omega) e)
      go_wp2_with (first
        | (go_at_call 29; ((have hm := HS.out.grant i HI.out); refine hm.mono ?_; clear hm; rintro e w2 ⟨rfl, hD⟩; (have hnt := HX.out.free HS.out); (have HX2 := Lib.hid (HX.out.fr hD.fr hnt.1 hnt.2.1 hnt.2.2)); (have HS2 := Lib.hid hD.sys); (have HI2 := Lib.hid (set_get2 (y := (p, who, true)) HI.out)); replace HB := Lib.hid (HB.out.trans hD.bel); (have hF2 := HF.out.then hD.fr (fun k hk ht => shTouch_back HF.out k hk (.inr (.inr (.inr ht))))); clear HF; (have HF := Lib.hid hF2); clear hD hF2 hnt))
        | (go_at_call 17; ((have hm := shade_step HS2.out i HI2.out HX2.out HBm.out (shRun_ok L who s HOK.out k) (HLT.out k hk) (shRun_pl HPL.out k) (HSL.out k hk) (by have := HLn.out; omega)); rw [hd] at hm; refine hm.mono ?_; clear hm; rintro e w3 ⟨rfl, hX, hS, hb, hF⟩; (have HX3 : Hid (IsShade w3 m mk pu (shRun L who s x (k + 1)).2) := Lib.hid hX); (have HS3 : Hid (Sys B w3 a c (shRun L who s x (k + 1)).1 _) := Lib.hid hS); (have HI3 := Lib.hid (set_get2 (y := (p, who, false)) HI2.out)); replace HB := Lib.hid (HB.out.trans hb); (have hF2 := HF.out.then hF (fun k' hk' ht => shTouch_back HF.out k' hk' ht)); clear HF; (have HF := Lib.hid hF2); clear hX hS hb hF hF2)))
      go_roundw
      case rel => exact ⟨k + 1, false, _, by omega, by go_num, HI3, HL3, HS3, HX3, HB, HF⟩
      case measure => simp [intOf]; omega


theorem g_cells : windrowref06_Cells.f 200 1 1 1 = some ((128 : Nat) : Int) := by decide +kernel
theorem g_plan : windrowlaw08_plan.f 1 1 1 = some (1, 1, 1) := by decide +kernel
theorem g_stat : layout_Plan_Status.f 1 1 1 0 = some 16 := by decide +kernel
theorem g_base : layout_Plan_Base.f 1 1 1 = some 64 := by decide +kernel
theorem g_ref : layout_Plan_Ref.f 1 1 1 66 = some true ∧ layout_Plan_Ref.f 1 1 1 67 = some true := by decide +kernel
theorem g_right : ring_right.f 1 1 1 0 = some true := by decide +kernel
theorem g_place : layout_Plan_Place.f 1 1 1 (wrap64 66) = some (0, 2) ∧ layout_Plan_Place.f 1 1 1 (wrap64 67) = some (0, 3) := by decide +kernel
theorem g_mark : layout_Plan_Mark.f 1 1 1 0 = some 24 := by decide +kernel
abbrev gL : Pl := ⟨24, 2, 20, 19, fun _ => 21⟩
abbrev gX : SS := ⟨1, 1, 1, 0, 66, 0, false, false, false, 0, 0, 0, false⟩
abbrev gA : AS := ⟨List.replicate 128 0, [], true, 0, 0⟩
theorem g_plok : PlOk gL gX := ⟨⟨0, by decide +kernel, by decide +kernel⟩, by decide, by decide +kernel, by decide +kernel⟩
theorem g_ok : gX.ok := .inl ⟨rfl, rfl, rfl, rfl⟩
theorem g_run5 : (shRun gL 0 gA gX 5).2.at_ = 3 ∧ (shRun gL 0 gA gX 5).2.fresh = true ∧ (shRun gL 0 gA gX 5).1.log.length ≤ 1000 := by decide +kernel
theorem g_run : ∀ k, k < 5 → (shRun gL 0 gA gX k).2.at_ ≠ 3 := fun k hk => (by decide +kernel : ∀ k : Fin 5, (shRun gL 0 gA gX k.1).2.at_ ≠ 3) ⟨k, hk⟩
theorem g_slot : ∀ k, k < 5 → (shRun gL 0 gA gX k).2.at_ = 1 → (shRun gL 0 gA gX k).2.pat = 2 → layout_Plan_Slot.f gX.P gX.T gX.R gX.t (shRun gL 0 gA gX k).2.tl = some (gL.qS (shRun gL 0 gA gX k).2.tl) :=
  fun k hk => (by decide +kernel : ∀ k : Fin 5, (shRun gL 0 gA gX k.1).2.at_ = 1 → (shRun gL 0 gA gX k.1).2.pat = 2 → layout_Plan_Slot.f gX.P gX.T gX.R gX.t (shRun gL 0 gA gX k.1).2.tl = some (gL.qS (shRun gL 0 gA gX k.1).2.tl)) ⟨k, hk⟩
abbrev gA2 : AS := (shRun gL 0 gA gX 5).1
theorem g_run1 : (shRun gL 0 gA2 gX 1).2.at_ = 3 ∧ (shRun gL 0 gA2 gX 1).2.fresh = false ∧ (shRun gL 0 gA2 gX 1).1.has 24 = true ∧ bitSet ((shRun gL 0 gA2 gX 1).1.cells.getD (24 : Int).toNat 0) 2 = true ∧ bitSet ((shRun gL 0 gA2 gX 1).1.cells.getD (24 : Int).toNat 0) 3 = false := by decide +kernel
theorem sh_lt {w : World} {m mk pu : Nat} {x : SS} (h : IsShade w m mk pu x) : m < w.heap.size ∧ mk < w.heap.size ∧ pu < w.heap.size := ⟨blk_lt h.blk, blk_lt h.mrk, blk_lt h.psh⟩
/-- A shade whose blocks are none of another one's. -/
theorem IsShade.other {B : Nat} {w w' : World} {a c m mk pu m' mk' pu' : Nat} {s : AS} {ps : List (Nat × Int × Bool)} {x : SS} (h : IsShade w m mk pu x) (hs : Sys B w a c s ps) (hF : Fr (ShTouch c m' mk' pu' w) w w') (hne : ∀ k, k = m ∨ k = mk ∨ k = pu → k ≠ m' ∧ k ≠ mk' ∧ k ≠ pu') : IsShade w' m mk pu x := by
  have hf := h.free hs
  have one : ∀ k, (k = m ∨ k = mk ∨ k = pu) → ¬ Touch c w k → ¬ ShTouch c m' mk' pu' w k := fun k hk ht hz => by
    obtain ⟨n1, n2, n3⟩ := hne k hk
    rcases hz with e | e | e | e
    · exact n1 e
    · exact n2 e
    · exact n3 e
    · exact ht e
  exact h.fr hF (one m (.inl rfl) hf.1) (one mk (.inr (.inl rfl)) hf.2.1) (one pu (.inr (.inr rfl)) hf.2.2)

set_option maxHeartbeats 4000000 in
set_option maxRecDepth 100000 in
theorem shaded (w : World) : Calls Try.prog 13 #[] w fun e w' => e = .returned (.bool true) ∧ Below w.heap.size w w' := by
  have hlay := fun w => lay w 1 1 1 0 128 200 g_cells (by decide) (by decide) (by decide) (by decide)
  go_enter Try.func13, Try.ntmps13
  have KB := Lib.hid (Hp.blk_new w (.cells #[.int .i64 1, .int .i64 1, .int .i64 1] 23))
  have HB := Lib.hid ((Below.refl w.heap.size w).alloc (Nat.le_refl _) (.cells #[.int .i64 1, .int .i64 1, .int .i64 1] 23))
  (obtain ⟨c0, -⟩ := Hp.blk_cell KB.out 0 rfl)
  (obtain ⟨c1, -⟩ := Hp.blk_cell KB.out 1 rfl)
  (obtain ⟨c2, -⟩ := Hp.blk_cell KB.out 2 rfl)
  go_upto_region 5 with (first
    | (go_at_call 24; ((with_reducible refine (hlay _).mono ?_); clear hlay; rintro e w2 ⟨a, c, p, rfl, hS, hb⟩; (have HBs := Lib.hid HB.out.size); (have HS := Lib.hid (hS.mono HB.out.size)); clear c0 c1 c2; replace KB := Lib.hid (blk_below KB.out hb); replace HB := Lib.hid (HB.out.trans (hb.mono HB.out.size)); (obtain ⟨c0, -⟩ := Hp.blk_cell KB.out 0 rfl); (obtain ⟨c1, -⟩ := Hp.blk_cell KB.out 1 rfl); (obtain ⟨c2, -⟩ := Hp.blk_cell KB.out 2 rfl); clear hS hb)))
  go_upto_region 6 with (first
    | (go_at_call 11; ((with_reducible refine (windrowlaw08_plan.calls 1 1 1 1 1 1 _ g_plan).mono ?_); rintro e w3 ⟨rfl, hb⟩; replace HS := Lib.hid (HS.out.below hb); clear c0 c1 c2; replace KB := Lib.hid (blk_below KB.out hb); replace HB := Lib.hid (HB.out.trans (hb.mono HB.out.size)); (obtain ⟨c0, -⟩ := Hp.blk_cell KB.out 0 rfl); (obtain ⟨c1, -⟩ := Hp.blk_cell KB.out 1 rfl); (obtain ⟨c2, -⟩ := Hp.blk_cell KB.out 2 rfl); clear hb))
    | (go_at_call 12; ((with_reducible refine (newShade_yes _ 1 1 1 0 66 16 g_stat (by decide) 64 g_base (by decide) (by decide) g_ref.1 g_right).mono ?_); rintro e w4 ⟨m1, mk1, pu1, rfl, hlt, hX, hb⟩; (have HX1 := Lib.hid hX); (have M1 := Lib.hid (And.intro (Nat.le_trans HB.out.size hlt.1) (And.intro (Nat.le_trans HB.out.size hlt.2.1) (Nat.le_trans HB.out.size hlt.2.2)))); replace HS := Lib.hid (HS.out.below hb); clear c0 c1 c2; replace KB := Lib.hid (blk_below KB.out hb); replace HB := Lib.hid (HB.out.trans (hb.mono HB.out.size)); (obtain ⟨c0, -⟩ := Hp.blk_cell KB.out 0 rfl); (obtain ⟨c1, -⟩ := Hp.blk_cell KB.out 1 rfl); (obtain ⟨c2, -⟩ := Hp.blk_cell KB.out 2 rfl); clear hb hX hlt)))
  go_upto_region 9 with (first
    | (go_at_call 11; ((with_reducible refine (windrowlaw08_plan.calls 1 1 1 1 1 1 _ g_plan).mono ?_); rintro e w3 ⟨rfl, hb⟩; replace HS := Lib.hid (HS.out.below hb); replace HX1 := Lib.hid (HX1.out.below hb); clear c0 c1 c2; replace KB := Lib.hid (blk_below KB.out hb); replace HB := Lib.hid (HB.out.trans (hb.mono HB.out.size)); (obtain ⟨c0, -⟩ := Hp.blk_cell KB.out 0 rfl); (obtain ⟨c1, -⟩ := Hp.blk_cell KB.out 1 rfl); (obtain ⟨c2, -⟩ := Hp.blk_cell KB.out 2 rfl); clear hb))
    | (go_at_call 12; ((with_reducible refine (newShade_yes _ 1 1 1 0 66 16 g_stat (by decide) 64 g_base (by decide) (by decide) g_ref.1 g_right).mono ?_); rintro e w4 ⟨m2, mk2, pu2, rfl, hlt, hX, hb⟩; (have HLT1 := Lib.hid (sh_lt HX1.out)); (have HGE2 := Lib.hid hlt); replace HX1 := Lib.hid (HX1.out.below hb); (have HX2 := Lib.hid hX); (have M2 := Lib.hid (And.intro (Nat.le_trans HB.out.size hlt.1) (And.intro (Nat.le_trans HB.out.size hlt.2.1) (Nat.le_trans HB.out.size hlt.2.2)))); replace HS := Lib.hid (HS.out.below hb); clear c0 c1 c2; replace KB := Lib.hid (blk_below KB.out hb); replace HB := Lib.hid (HB.out.trans (hb.mono HB.out.size)); (obtain ⟨c0, -⟩ := Hp.blk_cell KB.out 0 rfl); (obtain ⟨c1, -⟩ := Hp.blk_cell KB.out 1 rfl); (obtain ⟨c2, -⟩ := Hp.blk_cell KB.out 2 rfl); clear hb hX hlt)))
  clear c0 c1 c2
  have HXo : Hid (∀ k, k = m2 ∨ k = mk2 ∨ k = pu2 → k ≠ m1 ∧ k ≠ mk1 ∧ k ≠ pu1) := Lib.hid (by
    obtain ⟨l1, l2, l3⟩ := HLT1.out
    obtain ⟨g1, g2, g3⟩ := HGE2.out
    rintro k (rfl | rfl | rfl) <;> (refine ⟨?_, ?_, ?_⟩ <;> omega))
  have HXo' : Hid (∀ k, k = m1 ∨ k = mk1 ∨ k = pu1 → k ≠ m2 ∧ k ≠ mk2 ∧ k ≠ pu2) := Lib.hid (by
    obtain ⟨l1, l2, l3⟩ := HLT1.out
    obtain ⟨g1, g2, g3⟩ := HGE2.out
    rintro k (rfl | rfl | rfl) <;> (refine ⟨?_, ?_, ?_⟩ <;> omega))
  go_upto_region 10 with (first
    | (go_at_call 30; ((have hm := finish_n HS.out 0 (g := false) (p := p) (who := 0) rfl HX1.out M1.out g_ok g_plok 5 (by decide) (by decide) g_run5.1 g_run g_slot (by simp)); (with_reducible refine hm.mono ?_); clear hm; rintro e w7 ⟨rfl, hX, ⟨ps', hi, -, hS⟩, hb, hF⟩; (have HX3 := Lib.hid (HX2.out.other HS.out hF HXo.out)); (have HX4 := Lib.hid hX); (have HS3 := Lib.hid hS); (have HI3 := Lib.hid hi); (have KB3 := Lib.hid (hF.blk KB.out (fun z => by rcases z with e | e | e | e; exact blk_ne KB.out HX1.out.blk (by decide) e; exact blk_ne KB.out HX1.out.mrk (by decide) e; exact blk_ne KB.out HX1.out.psh (by decide) e; exact not_touch KB.out (blk_ne KB.out (sys_cel HS.out) (by decide)) (by decide) e))); replace HB := Lib.hid (HB.out.trans hb); clear hX hS hi hb hF HX1 HX2 HS KB))
    | (go_at_call 30; ((have hm := finish_n HS3.out 0 (g := false) (p := p) (who := 0) HI3.out HX3.out M2.out g_ok g_plok 1 (by decide) (by decide) g_run1.1 (fun k hk => by obtain rfl : k = 0 := (by omega); exact (by decide)) (fun k hk => by obtain rfl : k = 0 := (by omega); exact fun h => absurd h (by decide)) g_run5.2.2); (with_reducible refine hm.mono ?_); clear hm; rintro e w8 ⟨rfl, hX, ⟨ps2, hi2, -, hS⟩, hb, hF⟩; (have HX5 := Lib.hid (HX4.out.other HS3.out hF HXo'.out)); (have HX6 := Lib.hid hX); (have HS4 := Lib.hid hS); (have KB := Lib.hid (hF.blk KB3.out (fun z => by rcases z with e | e | e | e; exact blk_ne KB3.out HX3.out.blk (by decide) e; exact blk_ne KB3.out HX3.out.mrk (by decide) e; exact blk_ne KB3.out HX3.out.psh (by decide) e; exact not_touch KB3.out (blk_ne KB3.out (sys_cel HS3.out) (by decide)) (by decide) e))); replace HB := Lib.hid (HB.out.trans hb); clear hX hS hb hF HX3 HX4 KB3 HS3 HI3)))
  (obtain ⟨c0, -⟩ := Hp.blk_cell KB.out 0 rfl)
  (obtain ⟨c1, -⟩ := Hp.blk_cell KB.out 1 rfl)
  (obtain ⟨c2, -⟩ := Hp.blk_cell KB.out 2 rfl)
  have hf1 := shade_fresh w8 m1 mk1 (some ⟨pu1, 0, none⟩) _ _ HX5.out.blk _ HX5.out.mrk
  have hf2 := shade_fresh w8 m2 mk2 (some ⟨pu2, 0, none⟩) _ _ HX6.out.blk _ HX6.out.mrk
  rw [show (SS.ms (shRun gL 0 gA gX 5).2).fresh = true from g_run5.2.1] at hf1
  rw [show (SS.ms (shRun gL 0 gA2 gX 1).2).fresh = false from g_run1.2.1] at hf2
  go_wp2_with (first
    | (go_at_call 19; ((with_reducible refine hf1.mono ?_); clear hf1; rintro e w9 ⟨rfl, hw⟩; obtain rfl := hw.symm))
    | (go_at_call 19; ((with_reducible refine hf2.mono ?_); clear hf2; rintro e w9 ⟨rfl, hw⟩; obtain rfl := hw.symm))
    | (go_at_call 11; ((with_reducible refine (windrowlaw08_plan.calls 1 1 1 1 1 1 _ g_plan).mono ?_); rintro e w3 ⟨rfl, hb⟩; replace HS4 := Lib.hid (HS4.out.below hb); clear c0 c1 c2; replace KB := Lib.hid (blk_below KB.out hb); replace HB := Lib.hid (HB.out.trans (hb.mono HB.out.size)); (obtain ⟨c0, -⟩ := Hp.blk_cell KB.out 0 rfl); (obtain ⟨c1, -⟩ := Hp.blk_cell KB.out 1 rfl); (obtain ⟨c2, -⟩ := Hp.blk_cell KB.out 2 rfl); clear hb))
    | (go_at_call 22; ((have hm := marked_sys _ HS4.out 1 1 1 66 g_ref.1 0 2 24 g_place.1 (by decide) g_mark g_run1.2.2.1); rw [g_run1.2.2.2.1] at hm; (with_reducible refine hm.mono ?_); clear hm; rintro e w9 ⟨rfl, hb⟩; replace HS4 := Lib.hid (HS4.out.below hb); clear c0 c1 c2; replace KB := Lib.hid (blk_below KB.out hb); replace HB := Lib.hid (HB.out.trans (hb.mono HB.out.size)); (obtain ⟨c0, -⟩ := Hp.blk_cell KB.out 0 rfl); (obtain ⟨c1, -⟩ := Hp.blk_cell KB.out 1 rfl); (obtain ⟨c2, -⟩ := Hp.blk_cell KB.out 2 rfl); clear hb))
    | (go_at_call 22; ((have hm := marked_sys _ HS4.out 1 1 1 67 g_ref.2 0 3 24 g_place.2 (by decide) g_mark g_run1.2.2.1); rw [g_run1.2.2.2.2] at hm; (with_reducible refine hm.mono ?_); clear hm; rintro e w9 ⟨rfl, hb⟩; replace HS4 := Lib.hid (HS4.out.below hb); clear c0 c1 c2; replace KB := Lib.hid (blk_below KB.out hb); replace HB := Lib.hid (HB.out.trans (hb.mono HB.out.size)); (obtain ⟨c0, -⟩ := Hp.blk_cell KB.out 0 rfl); (obtain ⟨c1, -⟩ := Hp.blk_cell KB.out 1 rfl); (obtain ⟨c2, -⟩ := Hp.blk_cell KB.out 2 rfl); clear hb)))
  go_ret
  exact ⟨rfl, HB.out⟩
end Go.Proofs.Ytcnledehnefldaa.Ar

/- RingFull, walked. -/
import Derived.Test.YtdcikbhfoplkmaaQs
namespace Go.Proofs.Ytdcikbhfoplkmaa.Ar
open Go Go.RowKit Go.Proofs.Ytdcikbhfoplkmaa.Hp Go.Proofs.Ytdcikbhfoplkmaa.PH
set_option linter.unusedVariables false
set_option linter.unusedSimpArgs false

theorem stS_len4 (s : AS) (who v qT qH qS : Int) : (stS s who v qT qH qS 4).log.length ≤ s.log.length + 4 :=
  Nat.le_trans (acc_len2 (stS s who v qT qH qS 3) _ _ _ _ _ _) (by have := stS_len s who v qT qH qS 3 (by omega); omega)
theorem Vw.sawT {s : AS} {R h t : Int} {f : Int → Int} (v : Vw s R h t f) (hR : 1 ≤ R) (who : Int) : rdT s who 20 = t := v.tail hR who 0 0
theorem Vw.sawH {s : AS} {R h t : Int} {f : Int → Int} (v : Vw s R h t f) (hR : 1 ≤ R) (who : Int) : rdH s who 20 19 = h := (v.load (by omega) (by omega) who 0 0).head hR who 0 0
theorem Vw.room {s : AS} {R h t : Int} {f : Int → Int} (v : Vw s R h t f) (hR : 1 ≤ R) (who x j0 : Int) (h0 : 0 ≤ j0) (h1 : j0 < R) (ht : IntKind.u64.wrap (t + 1) = t + 1) : Vw (stS s who x 20 19 (21 + j0) 4) R h (t + 1) (fun j => if j0 = j then x else f j) := by
  have v1 := v.load (q := 20) (by omega) (by omega) who 0 0
  have v2 := v1.load (q := 19) (by omega) (by omega) who 0 0
  have v3 := v2.store (q := 21 + j0) (by omega) (by omega) who x
  have v4 := v3.store (q := 20) (by omega) (by omega) who (IntKind.u64.wrap (rdT s who 20 + 1))
  rw [v.sawT hR who, ht] at v4
  have e : stS s who x 20 19 (21 + j0) 4 = ((((s.acc true who 1 20 0 0).1.acc true who 1 19 0 0).1.acc true who 2 (21 + j0) 0 x).1.acc true who 2 20 0 (t + 1)).1 := by
    show ((((s.acc true who 1 20 0 0).1.acc true who 1 19 0 0).1.acc true who 2 (21 + j0) 0 x).1.acc true who 2 20 0 (IntKind.u64.wrap ((s.acc true who 1 20 0 0).2 + 1))).1 = _
    rw [v.tail hR who 0 0, ht]
  rw [e]
  refine v4.congr ?_ ?_ (fun j j1 j2 => ?_)
  · rw [if_neg (by omega), if_neg (by omega)]
  · rw [if_pos rfl]
  · show (if (20 : Int) = 21 + j then t + 1 else if 21 + j0 = 21 + j then x else f j) = if j0 = j then x else f j
    rw [if_neg (by omega)]
    by_cases hj : j0 = j
    · rw [if_pos (by omega), if_pos hj]
    · rw [if_neg (by omega), if_neg hj]
theorem Vw.full {s : AS} {R h t : Int} {f : Int → Int} (v : Vw s R h t f) (hR : 1 ≤ R) (who x : Int) : Vw (stS s who x 20 19 0 2) R h t f :=
  ((v.load (by omega) (by omega) who 0 0).load (by omega) (by omega) who 0 0)
/-- The arena at first. -/
theorem vw_zero {N : Nat} {R : Int} (h0 : 1 ≤ R) (hN : 21 + R ≤ N) : Vw (⟨List.replicate N 0, [], true, 0, 0⟩ : AS) R 0 0 (fun _ => 0) := by
  refine ⟨by simp; omega, ?_, ?_, fun j j0 j1 => ?_, rfl⟩ <;> (simp [List.getD_eq_getElem?_getD, List.getElem?_replicate]; try (split <;> rfl))
theorem kO0 {P T R h t gh : Int} {yo : Option OS} (h1 : PoOk P T R h t gh yo) (h2 : kO yo = 0) : yo = none := by
  rcases h1 with h3 | rfl | ⟨tl, rfl, _⟩ | ⟨tl, rfl, _⟩
  · exact h3
  all_goals simp [kO] at h2
theorem kU0 {P T R nx t h : Int} {f : Int → Int} {ym : Option PS} (h1 : PuOk P T R nx t h f ym) (h2 : kU ym = 0) : ym = none := by
  rcases h1 with h3 | ⟨hd, rfl⟩ | ⟨hd, rfl, _⟩ | ⟨hd, rfl, _⟩
  · exact h3
  all_goals simp [kU] at h2
theorem waitL_get (R h : Int) (f : Int → Int) (n i : Nat) (hi : i < n) : (waitL R h f n).getD i 0 = f ((h + i) % R) := by
  unfold waitL
  rw [List.getD_eq_getElem?_getD, List.getElem?_map, List.getElem?_range hi]
  rfl
set_option maxHeartbeats 8000000 in
set_option maxRecDepth 100000 in
theorem full (size more : Int) (w : World) :
    Calls Try.prog 4 #[.int .i64 size, .int .i64 more] w fun e w' => e = .returned (.bool true) ∧ Below w.heap.size w w' := by
  obtain ⟨P, T, R, hsm, hok⟩ := sm_small 0 0 size
  have HSM := Lib.hid hsm
  have HB := Lib.hid (Below.refl w.heap.size w)
  have hok2 := hok
  unfold smOk at hok2
  obtain ⟨N, hN⟩ : ∃ N : Nat, N = (64 + 64 * P).toNat := ⟨_, rfl⟩
  have hN1 : 128 ≤ N ∧ N ≤ 400 := by omega
  have hCe := sm_cells hok
  rw [← hN] at hCe
  have HCE := Lib.hid hCe
  have HN := Lib.hid hN1
  have HOK := Lib.hid hok
  obtain ⟨m6, hm6, hm66⟩ := tmod_small more 6 (by omega) (by omega)
  have hpl : plOk P T R ∧ (0 : Int) ≤ 0 ∧ 0 < T := ⟨hok.ok, by omega, by omega⟩
  have HRT := Lib.hid (show ring_right.f P T R 0 = some true by rw [rp_ring, decide_eq_true hpl])
  have HQT := Lib.hid (show layout_Plan_Tail.f P T R 0 = some 20 by have := rp_tail hpl; simpa using this)
  have HQH := Lib.hid (show layout_Plan_Head.f P T R 0 = some 19 by have := (rp_head hpl).1; simpa using this)
  have HSL : Hid (∀ n, 0 ≤ n → layout_Plan_Slot.f P T R 0 n = some (21 + n % R)) := Lib.hid (fun n hn => by have := rp_slot hpl hn; simpa using this)
  have HM6 := Lib.hid hm66
  clear hsm hok hok2 hN hN1 hCe hpl hm66
  go_enter Try.func4, Try.ntmps4
  go_upto_region 4 with (first
    | (go_at_call 8; ((with_reducible refine (ringed _).mono ?_); rintro e w9 ⟨rfl, hb⟩; replace HB := Lib.hid (HB.out.trans (hb.mono HB.out.size)); clear hb))
    | (go_at_call 9; ((with_reducible refine (windrowlaw07_small.calls 0 0 size P T R _ HSM.out).mono ?_); rintro e wa ⟨rfl, hb⟩; replace HB := Lib.hid (HB.out.trans (hb.mono HB.out.size)); clear hb)))
  have KQ : Hid ((wa.alloc (.cells #[.int .i64 P, .int .i64 T, .int .i64 R] 23)).heap[wa.heap.size]? = some (.cells #[.int .i64 P, .int .i64 T, .int .i64 R] 23 (0, 0))) := Lib.hid (Hp.blk_new _ _)
  have HQX0 := HB.out.size
  replace HB := Lib.hid (HB.out.alloc HB.out.size (.cells #[.int .i64 P, .int .i64 T, .int .i64 R] 23))
  obtain ⟨qx, hqx⟩ : ∃ qx, qx = wa.heap.size := ⟨_, rfl⟩
  have HQX := Lib.hid (show w.heap.size ≤ qx by rw [hqx]; exact HQX0)
  clear HQX0
  rw [← hqx] at KQ
  generalize wa.alloc (.cells #[.int .i64 P, .int .i64 T, .int .i64 R] 23) = wq at KQ HB ⊢
  simp only [← hqx]
  clear hqx
  have HQL := Lib.hid (blk_lt KQ.out)
  have HB1 := Lib.hid HB.out.size
  (obtain ⟨c0, -⟩ := Hp.blk_cell KQ.out 0 rfl)
  (obtain ⟨c1, -⟩ := Hp.blk_cell KQ.out 1 rfl)
  (obtain ⟨c2, -⟩ := Hp.blk_cell KQ.out 2 rfl)
  go_upto_region 8 with (first
    | (go_at_call 10; ((have hlay := lay wq P T R 0 N 400 HCE.out (by have := HN.out; omega) (by have := HN.out; omega) (by decide) (by decide)); (with_reducible refine hlay.mono ?_); clear hlay; rintro e w9 ⟨a, cc, p, rfl, hS, hb⟩; (have HS := Lib.hid hS); clear hS; clear c0 c1 c2; replace KQ := Lib.hid (blk_below KQ.out hb); (obtain ⟨c0, -⟩ := Hp.blk_cell KQ.out 0 rfl); (obtain ⟨c1, -⟩ := Hp.blk_cell KQ.out 1 rfl); (obtain ⟨c2, -⟩ := Hp.blk_cell KQ.out 2 rfl); replace HB := Lib.hid (HB.out.trans (hb.mono HB.out.size)); clear hb)))
  simp only [hm6]
  clear hm6
  obtain ⟨B1, hB1⟩ : ∃ B1, B1 = wq.heap.size := ⟨_, rfl⟩
  rw [← hB1] at HQL HB1 HS
  clear hB1
  have hR5 : 1 ≤ R ∧ R ≤ 5 := by have := HOK.out; unfold smOk at this; omega
  have HV0 := Lib.hid (vw_zero (N := N) (R := R) hR5.1 (by have := HN.out; omega))
  obtain ⟨K, hK⟩ : ∃ K : Nat, (K : Int) = R + m6 := ⟨(R + m6).toNat, by have := HM6.out; omega⟩
  have HK := Lib.hid hK
  have hK10 : K ≤ 10 := by have := HM6.out; omega
  clear hK c0 c1 c2
  go_wp2_with (fail)
  go_loopw [9, 10, 11, 12] (fun v9 v10 v11 v12 wr => ∃ (k : Nat) (s : AS) (b : Bool) (f : Int → Int) (ps : List (Nat × Int × Bool)), k ≤ K ∧ v9 = .int .i64 k ∧ Hid (ps[0]? = some (p, 0, b)) ∧ Hid (Sys B1 wr a cc s ps) ∧ Hid (Vw s R 0 (if (k : Int) < R then k else R) f ∧ (∀ j : Int, 0 ≤ j → j < k → j < R → f j = j + 1) ∧ s.log.length ≤ 4 * k) ∧ Hid (wr.heap[qx]? = some (.cells #[.int .i64 P, .int .i64 T, .int .i64 R] 23 (0, 0))) ∧ Hid (Below w.heap.size w wr)) (fun v9 _ _ _ _ => K - (intOf v9).toNat)
  case atStart => exact ⟨0, _, false, _, _, Nat.zero_le _, rfl, Lib.hid rfl, HS, Lib.hid ⟨by rw [if_pos (by omega)]; exact HV0.out, fun j _ _ => by omega, Nat.zero_le _⟩, KQ, HB⟩
  case round =>
    obtain ⟨k, s, b, f, ps, hkK, rfl, HPS, HSr, HVr, KQr, HBr⟩ := hrel
    clear HS HV0 KQ HB
    have HS := HSr
    have KQ := KQr
    have HB := HBr
    clear HSr KQr HBr
    (obtain ⟨c0, -⟩ := Hp.blk_cell KQ.out 0 rfl)
    (obtain ⟨c1, -⟩ := Hp.blk_cell KQ.out 1 rfl)
    (obtain ⟨c2, -⟩ := Hp.blk_cell KQ.out 2 rfl)
    go_upto_region 9 with (fail)
    go_cut [40] (fun v40 wz => wz = wr ∧ v40 = .bool (decide (k < K)))
    case first =>
      have HKo := HK.out
      have HMo := HM6.out
      go_wp2_with (fail)
      go_meet
      case rel => exact ⟨rfl, congrArg Value.bool (decide_eq_decide.2 (by omega))⟩
    case rest =>
    obtain ⟨rfl, rfl⟩ := hcut
    by_cases hkK2 : k < K
    · simp only [decide_eq_true hkK2]
      have ew : wrap64 ((k : Int) + 1) = (k : Int) + 1 := by unfold wrap64; omega
      have eu : IntKind.u64.wrap ((k : Int) + 1) = (k : Int) + 1 := u64_small (by omega) (by omega)
      have hv1 : (k : Int) + 1 ≠ 0 := by omega
      have HLG := Lib.hid (show s.log.length ≤ 1000 by have := HVr.out.2.2; omega)
      have eR : IntKind.u64.wrap R = R := u64_small (by omega) (by omega)
      by_cases hkR : (k : Int) < R
      · have hv := HVr.out.1
        rw [if_pos hkR] at hv
        have HV := Lib.hid hv
        have hz : ¬ IntKind.u64.wrap R ≤ IntKind.u64.wrap (rdT s 0 20 - rdH s 0 20 19) := by
          rw [hv.sawT hR5.1, hv.sawH hR5.1, eR, u64_small (by omega) (by omega)]; omega
        have HZ := Lib.hid hz
        have HQS : Hid (layout_Plan_Slot.f P T R 0 (rdT s 0 20) = some (21 + (k : Int))) := Lib.hid (by rw [hv.sawT hR5.1, HSL.out k (by omega), Int.emod_eq_of_lt (by omega) hkR])
        clear hz hv eR
        go_wp2_with (first
          | (go_at_call 13; ((with_reducible refine (windrowlaw07_plan.calls P T R P T R _ rfl).mono ?_); rintro e w9 ⟨rfl, hb⟩; replace HS := Lib.hid (HS.out.below hb); clear c0 c1 c2; replace KQ := Lib.hid (blk_below KQ.out hb); (obtain ⟨c0, -⟩ := Hp.blk_cell KQ.out 0 rfl); (obtain ⟨c1, -⟩ := Hp.blk_cell KQ.out 1 rfl); (obtain ⟨c2, -⟩ := Hp.blk_cell KQ.out 2 rfl); replace HB := Lib.hid (HB.out.trans (hb.mono HB.out.size)); clear hb))
          | (go_at_call 12; ((with_reducible refine (newPush_yes _ P T R 0 _ HRT.out hv1).mono ?_); rintro e w9 ⟨m, rfl, hmz, hX, hb⟩; (have HM2 := Lib.hid (Nat.lt_of_lt_of_le (blk_lt KQ.out) hmz)); (have HBM := Lib.hid (Nat.le_trans HS.out.base.1 hmz)); (have HX := Lib.hid hX); clear hmz hX; replace HS := Lib.hid (HS.out.below hb); clear c0 c1 c2; replace KQ := Lib.hid (blk_below KQ.out hb); (obtain ⟨c0, -⟩ := Hp.blk_cell KQ.out 0 rfl); (obtain ⟨c1, -⟩ := Hp.blk_cell KQ.out 1 rfl); (obtain ⟨c2, -⟩ := Hp.blk_cell KQ.out 2 rfl); replace HB := Lib.hid (HB.out.trans (hb.mono HB.out.size)); clear hb))
          | (go_at_call 14; ((have hm := finish_room (qT := 20) (qH := 19) HS.out 0 (g := b) (p := p) (who := 0) HPS.out m HX.out HBM.out HQT.out HQH.out HQS.out HLG.out (by have := HZ.out; omega)); (with_reducible refine hm.mono ?_); clear hm; rintro e w9 ⟨rfl, hX, ⟨ps2, hi, hS⟩, hb, hF⟩; (have HPS2 := Lib.hid hi); (have HX4 := Lib.hid hX); clear c0 c1 c2; replace KQ := Lib.hid (hF.blk KQ.out (fun z => by rcases z with z | z; exact absurd z (Nat.ne_of_lt HM2.out); exact not_touch KQ.out (blk_ne KQ.out (sys_cel HS.out) (by decide)) (by decide) z)); (have HS2 := Lib.hid hS); replace HB := Lib.hid (HB.out.trans (hb.mono HB1.out)); clear hi hX hS hb hF HS; (obtain ⟨c0, -⟩ := Hp.blk_cell KQ.out 0 rfl); (obtain ⟨c1, -⟩ := Hp.blk_cell KQ.out 1 rfl); (obtain ⟨c2, -⟩ := Hp.blk_cell KQ.out 2 rfl)))
          | (go_at_call 17; ((have hm := push_full w9 m _ HX4.out); (with_reducible refine hm.mono ?_); clear hm; rintro e w7 ⟨rfl, hw⟩; obtain rfl := hw.symm)))
        go_roundw
        case rel => exact ⟨k + 1, _, false, _, _, by omega, by go_num, HPS2, HS2, Lib.hid ⟨by
            have h5 := HV.out.room hR5.1 0 ((k : Int) + 1) k (by omega) hkR (u64_small (by omega) (by omega))
            by_cases h6 : (k : Int) + 1 < R
            · rw [if_pos (by push_cast; omega)]; push_cast; exact h5
            · rw [if_neg (by push_cast; omega)]; exact h5.congr rfl (by omega) (fun _ _ _ => rfl), fun j j0 j1 j2 => by
            by_cases h6 : (k : Int) = j
            · show (if (k : Int) = j then (k : Int) + 1 else f j) = j + 1
              rw [if_pos h6]; omega
            · show (if (k : Int) = j then (k : Int) + 1 else f j) = j + 1
              rw [if_neg h6]; exact HVr.out.2.1 j j0 (by push_cast at j1; omega) j2, Nat.le_trans (stS_len4 s 0 _ 20 19 _) (by have := HVr.out.2.2; omega)⟩, KQ, HB⟩
        case measure => simp [intOf]; omega
      · have hv := HVr.out.1
        rw [if_neg hkR] at hv
        have HV := Lib.hid hv
        have hz : IntKind.u64.wrap R ≤ IntKind.u64.wrap (rdT s 0 20 - rdH s 0 20 19) := by
          rw [hv.sawT hR5.1, hv.sawH hR5.1, eR, u64_small (by omega) (by omega)]; omega
        have HZ := Lib.hid hz
        clear hz hv eR
        go_wp2_with (first
          | (go_at_call 13; ((with_reducible refine (windrowlaw07_plan.calls P T R P T R _ rfl).mono ?_); rintro e w9 ⟨rfl, hb⟩; replace HS := Lib.hid (HS.out.below hb); clear c0 c1 c2; replace KQ := Lib.hid (blk_below KQ.out hb); (obtain ⟨c0, -⟩ := Hp.blk_cell KQ.out 0 rfl); (obtain ⟨c1, -⟩ := Hp.blk_cell KQ.out 1 rfl); (obtain ⟨c2, -⟩ := Hp.blk_cell KQ.out 2 rfl); replace HB := Lib.hid (HB.out.trans (hb.mono HB.out.size)); clear hb))
          | (go_at_call 12; ((with_reducible refine (newPush_yes _ P T R 0 _ HRT.out hv1).mono ?_); rintro e w9 ⟨m, rfl, hmz, hX, hb⟩; (have HM2 := Lib.hid (Nat.lt_of_lt_of_le (blk_lt KQ.out) hmz)); (have HBM := Lib.hid (Nat.le_trans HS.out.base.1 hmz)); (have HX := Lib.hid hX); clear hmz hX; replace HS := Lib.hid (HS.out.below hb); clear c0 c1 c2; replace KQ := Lib.hid (blk_below KQ.out hb); (obtain ⟨c0, -⟩ := Hp.blk_cell KQ.out 0 rfl); (obtain ⟨c1, -⟩ := Hp.blk_cell KQ.out 1 rfl); (obtain ⟨c2, -⟩ := Hp.blk_cell KQ.out 2 rfl); replace HB := Lib.hid (HB.out.trans (hb.mono HB.out.size)); clear hb))
          | (go_at_call 14; ((have hm := finish_full (qT := 20) (qH := 19) HS.out 0 (g := b) (p := p) (who := 0) HPS.out m HX.out HBM.out HQT.out HQH.out HLG.out (by have := HZ.out; omega)); (with_reducible refine hm.mono ?_); clear hm; rintro e w9 ⟨rfl, hX, ⟨ps2, hi, hS⟩, hb, hF⟩; (have HPS2 := Lib.hid hi); (have HX4 := Lib.hid hX); clear c0 c1 c2; replace KQ := Lib.hid (hF.blk KQ.out (fun z => by rcases z with z | z; exact absurd z (Nat.ne_of_lt HM2.out); exact not_touch KQ.out (blk_ne KQ.out (sys_cel HS.out) (by decide)) (by decide) z)); (have HS2 := Lib.hid hS); replace HB := Lib.hid (HB.out.trans (hb.mono HB1.out)); clear hi hX hS hb hF HS; (obtain ⟨c0, -⟩ := Hp.blk_cell KQ.out 0 rfl); (obtain ⟨c1, -⟩ := Hp.blk_cell KQ.out 1 rfl); (obtain ⟨c2, -⟩ := Hp.blk_cell KQ.out 2 rfl)))
          | (go_at_call 17; ((have hm := push_full w9 m _ HX4.out); (with_reducible refine hm.mono ?_); clear hm; rintro e w7 ⟨rfl, hw⟩; obtain rfl := hw.symm)))
        go_roundw
        case rel => exact ⟨k + 1, _, false, _, _, by omega, by go_num, HPS2, HS2, Lib.hid ⟨by
            rw [if_neg (by push_cast; omega)]; exact HV.out.full hR5.1 0 _, fun j j0 j1 j2 => HVr.out.2.1 j j0 (by push_cast at j1; omega) j2, Nat.le_trans (stS_len s 0 _ 20 19 0 2 (by omega)) (by have := HVr.out.2.2; omega)⟩, KQ, HB⟩
        case measure => simp [intOf]; omega
    · simp only [decide_eq_false hkK2]
      obtain rfl : k = K := by omega
      have hv := HVr.out.1
      have hKR : R ≤ k := by have := HK.out; omega
      rw [if_neg (by omega)] at hv
      have HV := Lib.hid hv
      clear hv
      go_upto_region 18 with (fail)
      obtain ⟨g, hg⟩ : ∃ g : Int → Int, g = fun n => if n < R then n + 1 else 77 + (n - R) := ⟨_, rfl⟩
      have HG : Hid (∀ n, g n = if n < R then n + 1 else 77 + (n - R)) := Lib.hid (fun n => by rw [hg])
      have hgR : g R = 77 := by rw [HG.out, if_neg (by omega)]; omega
      have hx : IsQ B1 (wc.alloc (.cells #[.pointer (some ⟨p, 0, none⟩), .pointer (some ⟨p, 0, none⟩), .pointer none, .pointer none, .int .u64 77, .slice none 0 0, .slice none 0 0, .bool true] 50)) wc.heap.size p p cc none none 77 [] [] true (.slice none 0 0) (.slice none 0 0) :=
        ⟨Hp.blk_new _ _, World.ownsRow_nil _ _ _ _, World.ownsRow_nil _ _ _ _, by simp [Value.ownBlock], by simp [Value.ownBlock], HS.out.base.1, fun e => by have := HS.out.lt.2; omega⟩
      have hqx : QX B1 (wc.alloc (.cells #[.pointer (some ⟨p, 0, none⟩), .pointer (some ⟨p, 0, none⟩), .pointer none, .pointer none, .int .u64 77, .slice none 0 0, .slice none 0 0, .bool true] 50)) a cc wc.heap.size p p 0 0 0 0 P T R g 0 R 0 R none none 40 s f ps none none (.slice none 0 0) (.slice none 0 0) :=
        ⟨HS.out.alloc (.cells #[.pointer (some ⟨p, 0, none⟩), .pointer (some ⟨p, 0, none⟩), .pointer none, .pointer none, .int .u64 77, .slice none 0 0, .slice none 0 0, .bool true] 50), by rw [hgR, show (R - R).toNat = 0 by omega, show ((0 : Int) - 0).toNat = 0 by omega]; exact hx, HV.out, Nat.le_trans HVr.out.2.2 (by omega), ⟨⟨b, HPS.out⟩, b, HPS.out⟩, .inl ⟨rfl, rfl⟩, .inl ⟨rfl, rfl⟩, HOK.out.ok,
          ⟨Int.le_refl _, by omega, by omega, Int.le_refl _, by omega, Int.le_refl _, by omega, by omega, by omega⟩, fun n h1 h2 => by
            rw [Int.emod_eq_of_lt h1 h2, HG.out, if_pos h2]; exact HVr.out.2.1 n h1 (by omega) h2, .inl rfl, .inl rfl, fun n h1 h2 => by rw [HG.out, HG.out, if_neg (by omega), if_neg (by omega)]; omega⟩
      have HQ : Hid (QS B1 (wc.alloc (.cells #[.pointer (some ⟨p, 0, none⟩), .pointer (some ⟨p, 0, none⟩), .pointer none, .pointer none, .int .u64 77, .slice none 0 0, .slice none 0 0, .bool true] 50)) a cc wc.heap.size p p 0 0 0 0 P T R g 0 R 0 R none none 40) := Lib.hid ⟨_, _, _, _, _, _, _, hqx⟩
      have HGR := Lib.hid hgR
      have HG0 : Hid (g 0 = 1) := Lib.hid (by rw [HG.out, if_pos (by omega)]; rfl)
      replace HB := Lib.hid (HB.out.alloc HB.out.size (.cells #[.pointer (some ⟨p, 0, none⟩), .pointer (some ⟨p, 0, none⟩), .pointer none, .pointer none, .int .u64 77, .slice none 0 0, .slice none 0 0, .bool true] 50))
      replace KQ := Lib.hid (Hp.blk_alloc KQ.out (.cells #[.pointer (some ⟨p, 0, none⟩), .pointer (some ⟨p, 0, none⟩), .pointer none, .pointer none, .int .u64 77, .slice none 0 0, .slice none 0 0, .bool true] 50))
      clear hx hqx hg hgR HS HV HVr HPS c0 c1 c2 hkK2 hkK hKR
      obtain ⟨x, hx⟩ : ∃ x, x = wc.heap.size := ⟨_, rfl⟩
      rw [← hx] at HQ
      generalize wc.alloc (.cells #[.pointer (some ⟨p, 0, none⟩), .pointer (some ⟨p, 0, none⟩), .pointer none, .pointer none, .int .u64 77, .slice none 0 0, .slice none 0 0, .bool true] 50) = wx at HQ HB KQ ⊢
      simp only [← hx]
      clear hx
      go_wp2_with (fail)
      go_loopw [14] (fun v14 wr => ∃ (j : Nat) (h : Int) (yo : Option OS), j ≤ 4 ∧ v14 = .int .i64 j ∧ Hid (QS B1 wr a cc x p p 0 0 0 0 P T R g 0 R h R none yo (40 + j)) ∧ Hid (wr.heap[qx]? = some (.cells #[.int .i64 P, .int .i64 T, .int .i64 R] 23 (0, 0))) ∧ Hid (Below w.heap.size w wr) ∧ Hid (4 * (R - h) - kO yo = 4 * R - j)) (fun v14 _ => 4 - (intOf v14).toNat)
      case atStart => exact ⟨0, 0, none, by omega, rfl, HQ, KQ, HB, Lib.hid (by simp [kO])⟩
      case round =>
        obtain ⟨j, h, yo, hj4, rfl, HQ2, KQ2, HB2, HE⟩ := hrel
        clear HQ KQ HB
        (obtain ⟨c0, -⟩ := Hp.blk_cell KQ2.out 0 rfl)
        (obtain ⟨c1, -⟩ := Hp.blk_cell KQ2.out 1 rfl)
        (obtain ⟨c2, -⟩ := Hp.blk_cell KQ2.out 2 rfl)
        by_cases hj : (j : Int) < 4
        · go_wp2_with (first
            | (go_at_call 18; ((have hm := HQ2.out.takes (by omega)); (with_reducible refine hm.mono ?_); clear hm; rintro e w9 ⟨rfl, ⟨h2, yo2, hq2, hst⟩, hb⟩; (have HKO := Lib.hid HQ2.out.ko); (have HQ3 := Lib.hid hq2); (have HU := Lib.hid hst); clear c0 c1 c2; replace KQ2 := Lib.hid ((hb.block qx HQL.out).trans KQ2.out); replace HB2 := Lib.hid (HB2.out.trans (hb.mono HB1.out)); clear hq2 hb hst)))
          go_roundw
          case rel => exact ⟨j + 1, h2, yo2, by omega, by go_num, HQ3, KQ2, HB2, Lib.hid (by
            have h5 := HU.out
            have h6 := HE.out
            have h7 := HKO.out
            have h8 := h5.2.2.1 (by omega)
            push_cast; omega)⟩
          case measure => simp [intOf]; omega
        · obtain rfl : j = 4 := by omega
          have hh1 : h = 1 ∧ kO yo = 0 := by have := HE.out; have := HQ2.out.ko; omega
          obtain ⟨rfl, hk0⟩ := hh1
          have hyo : yo = none := by
            obtain ⟨s, f, ps, pu, po, vp, vt, q⟩ := HQ2.out
            exact kO0 q.pok hk0
          subst hyo
          clear hk0 HE c0 c1 c2
          go_wp2_with (fail)
          go_loopw [15] (fun v15 wr => ∃ (j : Nat) (t : Int) (ym : Option PS), j ≤ 4 ∧ v15 = .int .i64 j ∧ Hid (QS B1 wr a cc x p p 0 0 0 0 P T R g 0 R 1 t ym none (44 + j)) ∧ Hid (wr.heap[qx]? = some (.cells #[.int .i64 P, .int .i64 T, .int .i64 R] 23 (0, 0))) ∧ Hid (Below w.heap.size w wr) ∧ Hid ((j < 4 ∧ t = R ∧ kU ym = j) ∨ (j = 4 ∧ t = R + 1 ∧ ym = none))) (fun v15 _ => 4 - (intOf v15).toNat)
          case atStart => exact ⟨0, R, none, by omega, rfl, HQ2, KQ2, HB2, Lib.hid (.inl ⟨by omega, rfl, rfl⟩)⟩
          case round =>
            obtain ⟨j, t, ym, hj4, rfl, HQ3, KQ3, HB3, HE⟩ := hrel
            clear HQ2 KQ2 HB2
            (obtain ⟨c0, -⟩ := Hp.blk_cell KQ3.out 0 rfl)
            (obtain ⟨c1, -⟩ := Hp.blk_cell KQ3.out 1 rfl)
            (obtain ⟨c2, -⟩ := Hp.blk_cell KQ3.out 2 rfl)
            by_cases hj : (j : Int) < 4
            · go_wp2_with (first
                | (go_at_call 19; ((have hm := HQ3.out.puts (by omega)); (with_reducible refine hm.mono ?_); clear hm; rintro e w9 ⟨rfl, ⟨t2, ym2, hq2, hst⟩, hb⟩; (have HQ4 := Lib.hid hq2); (have HU := Lib.hid hst); clear c0 c1 c2; replace KQ3 := Lib.hid ((hb.block qx HQL.out).trans KQ3.out); replace HB3 := Lib.hid (HB3.out.trans (hb.mono HB1.out)); clear hq2 hb hst)))
              go_roundw
              case rel => exact ⟨j + 1, t2, ym2, by omega, by go_num, HQ4, KQ3, HB3, Lib.hid (by
                have h6 : t = R ∧ kU ym = j := by rcases HE.out with h | h; exact h.2; omega
                rcases HU.out with ⟨h1, h2 | h2⟩ | ⟨h1, h2, h3, h4, h5⟩
                · exact .inr ⟨by omega, by omega, h1⟩
                · omega
                · exact .inl ⟨by omega, by omega, by push_cast; omega⟩)⟩
              case measure => simp [intOf]; omega
            · obtain rfl : j = 4 := by omega
              have h6 : t = R + 1 ∧ ym = none := by rcases HE.out with h | h; omega; exact h.2
              obtain ⟨rfl, rfl⟩ := h6
              obtain ⟨s, f, ps, pu, po, vp, vt, q⟩ := HQ3.out
              have HX := Lib.hid q
              clear q HQ3 HE
              obtain ⟨r, hr⟩ : ∃ r : Nat, R = (r : Int) + 1 := ⟨(R - 1).toNat, by omega⟩
              have hr5 : r ≤ 5 := by omega
              have HRr := Lib.hid hr
              clear hr
              go_upto_region 27 with (first
                | (go_at_call 13; ((with_reducible refine (windrowlaw07_plan.calls P T R P T R _ rfl).mono ?_); rintro e w9 ⟨rfl, hb⟩; clear c0 c1 c2; replace HX := Lib.hid (HX.out.below hb); replace KQ3 := Lib.hid (blk_below KQ3.out hb); replace HB3 := Lib.hid (HB3.out.trans (hb.mono HB3.out.size)); (obtain ⟨c0, -⟩ := Hp.blk_cell KQ3.out 0 rfl); (obtain ⟨c1, -⟩ := Hp.blk_cell KQ3.out 1 rfl); (obtain ⟨c2, -⟩ := Hp.blk_cell KQ3.out 2 rfl); clear hb))
                | (go_at_call 20; ((have hm := waiting_ok HX.out.sys HX.out.ok HX.out.vw (r + 1) (by have := HRr.out; push_cast; omega) (by have := HRr.out; push_cast; omega) (by omega) (by omega)); (with_reducible refine hm.mono ?_); clear hm; rintro e w8 ⟨v8, rfl, hown, hb⟩; (have HOW := Lib.hid hown); clear c0 c1 c2; replace HX := Lib.hid (HX.out.below hb); replace KQ3 := Lib.hid (blk_below KQ3.out hb); replace HB3 := Lib.hid (HB3.out.trans (hb.mono HB3.out.size)); (obtain ⟨c0, -⟩ := Hp.blk_cell KQ3.out 0 rfl); (obtain ⟨c1, -⟩ := Hp.blk_cell KQ3.out 1 rfl); (obtain ⟨c2, -⟩ := Hp.blk_cell KQ3.out 2 rfl); clear hb hown)))
              obtain ⟨g1, k1, hs1, -, -, hI1⟩ := img_at (n := 1) HX.out.que.rp (by rw [run_len]; omega) (by omega)
              obtain ⟨g2, k2, hs2, -, -, hI2⟩ := img_at (n := 1) HX.out.que.rt (by rw [run_len]; rfl) (by omega)
              obtain ⟨g3, k3, hs3, -, -, hI3⟩ := img_at (n := r + 1) HOW.out (by rw [waitL_len]) (by omega)
              subst hs1 hs2 hs3
              have y2 := hI2.cell 0 (by rw [run_len]; decide)
              rw [run_get g 0 _ 0 (by decide), show (0 : Int) + ((0 : Nat) : Int) = 0 by rfl, HG0.out] at y2
              have y3 := hI3.cell r (by rw [waitL_len]; omega)
              rw [waitL_get R 1 f _ r (by omega), show (1 : Int) + (r : Int) = R by have := HRr.out; omega, HX.out.wrd R (by omega) (by omega), HGR.out] at y3
              have x5 := (Hp.blk_cell HX.out.que.blk 5 rfl).1
              have x6 := (Hp.blk_cell HX.out.que.blk 6 rfl).1
              have e3 : ((r : Int) + 1 == R) = true := by simp; exact HRr.out.symm
              have e4 : ((((r + 1 : Nat) : Nat) : Int) == R) = true := by simp; exact HRr.out.symm
              clear hI1 hI2 hI3 HOW
              go_wp2_with (fail)
              go_ret
              exact ⟨by first | rfl | trivial, HB3.out⟩
end Go.Proofs.Ytdcikbhfoplkmaa.Ar

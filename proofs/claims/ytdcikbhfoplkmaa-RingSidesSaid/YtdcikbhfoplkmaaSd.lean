/- RingSides, walked. -/
import Derived.Test.YtdcikbhfoplkmaaSm
import Derived.Test.YtdcikbhfoplkmaaRg
import Derived.Deep.Cut
namespace Go.Proofs.Ytdcikbhfoplkmaa.Ar
open Go Go.RowKit Go.Proofs.Ytdcikbhfoplkmaa.Hp Go.Proofs.Ytdcikbhfoplkmaa.PH
set_option linter.unusedVariables false
set_option linter.unusedSimpArgs false

theorem cell_below {w w' : World} {a : Addr} {v : Value} (hb : Below w.heap.size w w') (h : w.cell? a = some v) : w'.cell? a = some v := (hb.cell (w.block_lt_of_cell? _ h)).trans h
theorem stS_len4 (s : AS) (who v qT qH qS : Int) : (stS s who v qT qH qS 4).log.length ≤ s.log.length + 4 :=
  Nat.le_trans (acc_len2 (stS s who v qT qH qS 3) _ _ _ _ _ _) (by have := stS_len s who v qT qH qS 3 (by omega); omega)
set_option maxHeartbeats 4000000 in
set_option maxRecDepth 100000 in
theorem sides (p0 t0 r0 mine v times : Int) (w : World) :
    Calls Try.prog 3 #[.agg #[.int .i64 p0, .int .i64 t0, .int .i64 r0, .int .i64 mine, .int .u64 v, .int .i64 times]] w fun e w' => e = .returned (.bool true) ∧ Below w.heap.size w w' := by
  have hn := Hp.blk_new w (.cells #[.int .i64 p0, .int .i64 t0, .int .i64 r0, .int .i64 mine, .int .u64 v, .int .i64 times] 26)
  obtain ⟨P, T, R, hsm, hok⟩ := sm_small p0 t0 r0
  have HSM := Lib.hid hsm
  have HOK := Lib.hid hok
  clear hsm hok
  go_enter Try.func3, Try.ntmps3
  go_upto_region 1 with (fail)
  refine Rg.Upto.start (fun w' => w'.heap[w.heap.size]? = some (.cells #[.int .i64 p0, .int .i64 t0, .int .i64 r0, .int .i64 mine, .int .u64 v, .int .i64 times] 26 (0, 0))) 1000 (by kernel_rfl) hn (fun HSC => ?_)
  refine Rg.Upto.takeA (i := 0) (v := ?_) rfl (by kernel_rfl) (by kernel_rfl) (by kernel_rfl) (of_decide_eq_true (by kernel_rfl)) (fun _ _ _ h => h) (by rfl) (fun w5 hS5 => ?_) HSC ?_
  rotate_left
  · clear hS5
    go_simp
    try rfl
  try simp only [Act.put, List.setIfInBounds_toArray, List.set_cons_zero, List.set_cons_succ]
  refine Rg.Upto.takeA (i := 1) (v := ?_) rfl (by kernel_rfl) (by kernel_rfl) (by kernel_rfl) (of_decide_eq_true (by kernel_rfl)) (fun _ _ _ h => h) (by rfl) (fun w5 hS5 => ?_) HSC ?_
  rotate_left
  · have c0 := (Hp.blk_cell hS5 0 rfl).1
    have c1 := (Hp.blk_cell hS5 1 rfl).1
    have c2 := (Hp.blk_cell hS5 2 rfl).1
    clear hS5
    go_simp
    try rfl
  try simp only [Act.put, List.setIfInBounds_toArray, List.set_cons_zero, List.set_cons_succ]
  refine Rg.Upto.takeA (i := 2) (v := ?_) rfl (by kernel_rfl) (by kernel_rfl) (by kernel_rfl) (of_decide_eq_true (by kernel_rfl)) (fun _ _ _ h => h) (by rfl) (fun w5 hS5 => ?_) HSC ?_
  rotate_left
  · clear hS5
    go_simp
    try rfl
  try simp only [Act.put, List.setIfInBounds_toArray, List.set_cons_zero, List.set_cons_succ]
  refine Rg.Upto.takeA (i := 3) (v := ?_) rfl (by kernel_rfl) (by kernel_rfl) (by kernel_rfl) (of_decide_eq_true (by kernel_rfl)) (fun _ _ _ h => h) (by rfl) (fun w5 hS5 => ?_) HSC ?_
  rotate_left
  · have c3 := (Hp.blk_cell hS5 3 rfl).1
    clear hS5
    go_simp
    try rfl
  try simp only [Act.put, List.setIfInBounds_toArray, List.set_cons_zero, List.set_cons_succ]
  refine Rg.Upto.takeA (i := 4) (v := ?_) rfl (by kernel_rfl) (by kernel_rfl) (by kernel_rfl) (of_decide_eq_true (by kernel_rfl)) (fun _ _ _ h => h) (by rfl) (fun w5 hS5 => ?_) HSC ?_
  rotate_left
  · clear hS5
    go_simp
    try rfl
  try simp only [Act.put, List.setIfInBounds_toArray, List.set_cons_zero, List.set_cons_succ]
  refine Rg.Upto.takeA (i := 5) (v := ?_) rfl (by kernel_rfl) (by kernel_rfl) (by kernel_rfl) (of_decide_eq_true (by kernel_rfl)) (fun _ _ _ h => h) (by rfl) (fun w5 hS5 => ?_) HSC ?_
  rotate_left
  · have c4 := (Hp.blk_cell hS5 4 rfl).1
    clear hS5
    go_simp
    try rfl
  try simp only [Act.put, List.setIfInBounds_toArray, List.set_cons_zero, List.set_cons_succ]
  refine Rg.Upto.takeA (i := 6) (v := ?_) rfl (by kernel_rfl) (by kernel_rfl) (by kernel_rfl) (of_decide_eq_true (by kernel_rfl)) (fun _ _ _ h => h) (by rfl) (fun w5 hS5 => ?_) HSC ?_
  rotate_left
  · clear hS5
    go_simp
    try rfl
  try simp only [Act.put, List.setIfInBounds_toArray, List.set_cons_zero, List.set_cons_succ]
  refine Rg.Upto.takeA (i := 7) (v := ?_) rfl (by kernel_rfl) (by kernel_rfl) (by kernel_rfl) (of_decide_eq_true (by kernel_rfl)) (fun _ _ _ h => h) (by rfl) (fun w5 hS5 => ?_) HSC ?_
  rotate_left
  · have c5 := (Hp.blk_cell hS5 5 rfl).1
    clear hS5
    go_simp
    try rfl
  try simp only [Act.put, List.setIfInBounds_toArray, List.set_cons_zero, List.set_cons_succ]
  refine Rg.Upto.one (i := 8) rfl (by kernel_rfl) (by rfl) (fun KK hK => ?_)
  go_simp
  refine hK.out _ _ (Hp.blk_alloc HSC _) ?_
  clear hK KK
  try simp only [Act.put, List.setIfInBounds_toArray, List.set_cons_zero, List.set_cons_succ]
  refine Rg.Upto.one (i := 9) rfl (by kernel_rfl) (by rfl) (fun KK hK => ?_)
  go_simp
  refine hK.out _ _ (Hp.blk_alloc HSC _) ?_
  clear hK KK
  try simp only [Act.put, List.setIfInBounds_toArray, List.set_cons_zero, List.set_cons_succ]
  refine Rg.Upto.one (i := 10) rfl (by kernel_rfl) (by rfl) (fun KK hK => ?_)
  go_simp
  refine hK.out _ _ (Hp.blk_alloc HSC _) ?_
  clear hK KK
  try simp only [Act.put, List.setIfInBounds_toArray, List.set_cons_zero, List.set_cons_succ]
  refine Rg.Upto.one (i := 11) rfl (by kernel_rfl) (by rfl) (fun KK hK => ?_)
  go_simp
  refine hK.out _ _ (Hp.blk_alloc HSC _) ?_
  clear hK KK
  try simp only [Act.put, List.setIfInBounds_toArray, List.set_cons_zero, List.set_cons_succ]
  refine Rg.Upto.one (i := 12) rfl (by kernel_rfl) (by rfl) (fun KK hK => ?_)
  go_simp
  refine hK.out _ _ (Hp.blk_alloc HSC _) ?_
  clear hK KK
  try simp only [Act.put, List.setIfInBounds_toArray, List.set_cons_zero, List.set_cons_succ]
  clear HSC
  refine Rg.Upto.done (by kernel_rfl) ?_
  clear hn
  have HB := Lib.hid (((Below.refl w.heap.size w).alloc (Nat.le_refl _) (.cells #[.int .i64 p0, .int .i64 t0, .int .i64 r0, .int .i64 mine, .int .u64 v, .int .i64 times] 26)).alloc (by simp) (.cells #[.int .i64 p0, .int .i64 t0, .int .i64 r0] 23)).drew
  have KQ : Hid ((((w.alloc (.cells #[.int .i64 p0, .int .i64 t0, .int .i64 r0, .int .i64 mine, .int .u64 v, .int .i64 times] 26)).alloc (.cells #[.int .i64 p0, .int .i64 t0, .int .i64 r0] 23)).drew).heap[w.heap.size + 1]? = some (.cells #[.int .i64 p0, .int .i64 t0, .int .i64 r0] 23 (0, 0))) := Lib.hid (new_at2 _ _ (by simp))
  obtain ⟨c0, f0⟩ := Hp.blk_cell KQ.out 0 rfl
  obtain ⟨c1, f1⟩ := Hp.blk_cell KQ.out 1 rfl
  obtain ⟨c2, f2⟩ := Hp.blk_cell KQ.out 2 rfl
  go_upto_region 5 with (first
    | (go_at_call 8; (with_reducible refine (ringed _).mono ?_; rintro e w9 ⟨rfl, hb⟩; clear c0 c1 c2 f0 f1 f2; replace KQ := Lib.hid (blk_below KQ.out hb); replace HB := Lib.hid (HB.out.trans (hb.mono HB.out.size)); clear hb; (obtain ⟨c0, f0⟩ := Hp.blk_cell KQ.out 0 rfl); (obtain ⟨c1, f1⟩ := Hp.blk_cell KQ.out 1 rfl); (obtain ⟨c2, f2⟩ := Hp.blk_cell KQ.out 2 rfl)))
    | (go_at_call 9; (with_reducible refine (windrowlaw07_small.calls p0 t0 r0 P T R _ HSM.out).mono ?_; rintro e wa ⟨rfl, hb⟩; clear c0 c1 c2 f0 f1 f2; replace KQ := Lib.hid (blk_below KQ.out hb); replace HB := Lib.hid (HB.out.trans (hb.mono HB.out.size)); clear hb; (obtain ⟨c0, f0⟩ := Hp.blk_cell KQ.out 0 rfl); (obtain ⟨c1, f1⟩ := Hp.blk_cell KQ.out 1 rfl); (obtain ⟨c2, f2⟩ := Hp.blk_cell KQ.out 2 rfl))))
  have KQ2 : Hid ((((wa.setCell ⟨w.heap.size + 1, 0, none⟩ (.int .i64 P)).setCell ⟨w.heap.size + 1, 1, none⟩ (.int .i64 T)).setCell ⟨w.heap.size + 1, 2, none⟩ (.int .i64 R)).heap[w.heap.size + 1]? = some (.cells #[.int .i64 P, .int .i64 T, .int .i64 R] 23 (0, 0))) := Lib.hid (Hp.blk_set (Hp.blk_set (Hp.blk_set KQ.out 0 _) 1 _) 2 _)
  replace HB := Lib.hid (((HB.out.setCell (p := ⟨w.heap.size + 1, 0, none⟩) (Nat.le_succ _) (.int .i64 P)).setCell (p := ⟨w.heap.size + 1, 1, none⟩) (Nat.le_succ _) (.int .i64 T)).setCell (p := ⟨w.heap.size + 1, 2, none⟩) (Nat.le_succ _) (.int .i64 R))
  clear c0 c1 c2 f0 f1 f2 KQ HSM
  generalize ((wa.setCell ⟨w.heap.size + 1, 0, none⟩ (.int .i64 P)).setCell ⟨w.heap.size + 1, 1, none⟩ (.int .i64 T)).setCell ⟨w.heap.size + 1, 2, none⟩ (.int .i64 R) = wq at KQ2 HB ⊢
  have KQ := KQ2
  clear KQ2
  obtain ⟨c0, f0⟩ := Hp.blk_cell KQ.out 0 rfl
  obtain ⟨c1, f1⟩ := Hp.blk_cell KQ.out 1 rfl
  obtain ⟨c2, f2⟩ := Hp.blk_cell KQ.out 2 rfl
  have hok := HOK.out
  have hok2 := hok
  unfold smOk at hok2
  obtain ⟨N, hN⟩ : ∃ N : Nat, N = (64 + 64 * P).toNat := ⟨_, rfl⟩
  have hN1 : 128 ≤ N ∧ N ≤ 400 := by omega
  have hCe := sm_cells hok
  rw [← hN] at hCe
  have HCE := Lib.hid hCe
  obtain ⟨db, de, hDr⟩ := sm_draw hok
  rw [← hN] at hDr
  have HDR := Lib.hid hDr
  have eT : IntKind.u64.wrap T = T := u64_small (by omega) (by omega)
  obtain ⟨tm, htm, htm2⟩ := tmod_small mine T (by omega) (by omega)
  obtain ⟨M, hM, hM2⟩ := tmod_small times 8 (by omega) (by omega)
  have nT : (T == 0) = false := by simp; omega
  have nT2 : ¬ T = 0 := by omega
  have HP := Lib.hid (And.intro hok.ok (And.intro (Int.natCast_nonneg tm) htm2))
  have HT := Lib.hid (And.intro htm2 hM2)
  have HN := Lib.hid hN1
  have hM8 : M ≤ 8 := by omega
  clear hok hok2 hN hCe hDr hN1 htm2 hM2
  go_upto_region 9 with (first
    | (go_at_call 10; ((have hlay := lay wq P T R 3 N 400 HCE.out (by have := HN.out; omega) (by have := HN.out; omega) (by decide) (by decide)); with_reducible refine hlay.mono ?_; clear hlay; rintro e w9 ⟨a, c, p, rfl, hS, hb⟩; (have HS := Lib.hid (hS.mono HB.out.size)); clear c0 c1 c2 f0 f1 f2; replace KQ := Lib.hid (blk_below KQ.out hb); replace HB := Lib.hid (HB.out.trans (hb.mono HB.out.size)); clear hb; (obtain ⟨c0, f0⟩ := Hp.blk_cell KQ.out 0 rfl); (obtain ⟨c1, f1⟩ := Hp.blk_cell KQ.out 1 rfl); (obtain ⟨c2, f2⟩ := Hp.blk_cell KQ.out 2 rfl))))
  simp only [htm]
  clear htm
  go_wp2_with (first
    | (go_at_call 11; ((have hm := HS.out.image); (with_reducible refine hm.mono ?_); clear hm; rintro e w9 ⟨v1, rfl, hown, hF⟩; (obtain ⟨g1, cap1, rfl, hg1, hcap1, hI⟩ := img_at (n := N) (xs := List.replicate N 0) hown (by simp) (by have := HN.out; omega)); (have HI := Lib.hid hI); (have hb := below_fr hF); (have HGC := Lib.hid (by have := HS.out.lt.2; omega : g1 ≠ c)); (have HGB := Lib.hid (Nat.le_trans HB.out.size hg1)); replace HS := Lib.hid (HS.out.still hF); clear c0 c1 c2 f0 f1 f2; replace KQ := Lib.hid (blk_below KQ.out hb); replace HB := Lib.hid (HB.out.trans (hb.mono HB.out.size)); clear hb hown hF hg1 hI; (obtain ⟨c0, f0⟩ := Hp.blk_cell KQ.out 0 rfl); (obtain ⟨c1, f1⟩ := Hp.blk_cell KQ.out 1 rfl); (obtain ⟨c2, f2⟩ := Hp.blk_cell KQ.out 2 rfl))))
  have hP := HP.out
  have hRt : ring_right.f P T R (tm : Int) = some true := by rw [rp_ring, decide_eq_true hP]
  have HRT := Lib.hid hRt
  have HQT := Lib.hid (rp_tail hP)
  have HQH := Lib.hid (rp_head hP).1
  have HST := Lib.hid (sm_status hP.2.1 (by have := HOK.out; unfold smOk at this; have := hP.2.2; omega) (by have := HOK.out; unfold smOk at this; omega) (by have := HOK.out; unfold smOk at this; omega) P T db de (N : Int) (t := (tm : Int)) (R := R))
  obtain ⟨st, hst⟩ : ∃ st : Int, st = 16 + (tm : Int) * (5 + R) := ⟨_, rfl⟩
  have hstb : 16 ≤ st ∧ st ≤ 200 := by
    have h' := hP.1
    unfold plOk at h'
    obtain ⟨m1, m2, m3⟩ := rp_mul (t := (tm : Int)) (R := R) hP.2.1 (by have := hP.2.2; omega) (by omega) (by omega)
    rw [hst]; omega
  have HSL : Hid (∀ n, 0 ≤ n → layout_Plan_Slot.f P T R (tm : Int) n = some (st + 5 + n % R)) := Lib.hid (fun n hn => by rw [rp_slot hP hn, hst])
  rw [← hst] at HQT HQH HST
  have HSB := Lib.hid hstb
  have HR0 : Hid (1 ≤ R ∧ R ≤ 5) := Lib.hid (by have := HOK.out; unfold smOk at this; omega)
  have HC0 : Hid (Cel (fun i => st + 4 ≤ i ∧ i < st + 5 + R) (List.replicate N 0) (List.replicate N 0)) := Lib.hid ⟨rfl, fun _ _ => rfl, fun x hx => by rw [(List.mem_replicate.1 hx).2]; exact Int.le_refl 0⟩
  clear hP hRt hst hstb c0 c1 c2 f0 f1 f2
  go_loopw [11] (fun i wr => ∃ (k : Nat) (s : AS) (b : Bool) (ps : List (Nat × Int × Bool)), k ≤ M ∧ i = .int .i64 k ∧ Hid (ps[0]? = some (p, 3, b)) ∧ Hid (Sys w.heap.size wr a c s ps) ∧ Hid (Cel (fun i => st + 4 ≤ i ∧ i < st + 5 + R) (List.replicate N 0) s.cells ∧ s.log.length ≤ 4 * k) ∧ Hid (Img wr g1 (List.replicate N 0)) ∧ Hid (wr.heap[w.heap.size + 1]? = some (.cells #[.int .i64 P, .int .i64 T, .int .i64 R] 23 (0, 0))) ∧ Hid (Below w.heap.size w wr)) (fun i _ => M - (intOf i).toNat)
  case atStart => exact ⟨0, _, false, _, Nat.zero_le _, rfl, Lib.hid rfl, HS, Lib.hid ⟨HC0.out, Nat.zero_le _⟩, HI, KQ, HB⟩
  case round =>
    obtain ⟨k, s, b, ps, hk, rfl, HPS, HSr, HCr, HIr, KQr, HBr⟩ := hrel
    clear HS HC0 HI KQ HB
    obtain ⟨c0, f0⟩ := Hp.blk_cell KQr.out 0 rfl
    obtain ⟨c1, f1⟩ := Hp.blk_cell KQr.out 1 rfl
    obtain ⟨c2, f2⟩ := Hp.blk_cell KQr.out 2 rfl
    by_cases hkM : k < M
    · have hv1 := bits_one v
      have hlg : s.log.length ≤ 1000 := by have := HCr.out.2; have := HT.out.2; omega
      have HLG := Lib.hid hlg
      clear hlg
      rcases Classical.em (IntKind.u64.wrap R ≤ IntKind.u64.wrap (rdT s 3 (st + 4) - rdH s 3 (st + 4) (st + 3))) with hz | hz
      · have HZ := Lib.hid hz
        clear hz
        go_wp2_with (first
          | (go_at_call 13; ((with_reducible refine (windrowlaw07_plan.calls P T R P T R _ rfl).mono ?_); rintro e w9 ⟨rfl, hb⟩; replace HSr := Lib.hid (HSr.out.below hb); replace HIr := Lib.hid (HIr.out.below hb); clear c0 c1 c2 f0 f1 f2; replace KQr := Lib.hid (blk_below KQr.out hb); replace HBr := Lib.hid (HBr.out.trans (hb.mono HBr.out.size)); clear hb; (obtain ⟨c0, f0⟩ := Hp.blk_cell KQr.out 0 rfl); (obtain ⟨c1, f1⟩ := Hp.blk_cell KQr.out 1 rfl); (obtain ⟨c2, f2⟩ := Hp.blk_cell KQr.out 2 rfl)))
          | (go_at_call 12; ((with_reducible refine (newPush_yes _ P T R tm _ HRT.out hv1).mono ?_); rintro e w9 ⟨m, rfl, hmz, hX, hb⟩; (have HM1 := Lib.hid (Nat.lt_of_lt_of_le HIr.out.lt hmz)); (have HM2 := Lib.hid (Nat.lt_of_lt_of_le (blk_lt KQr.out) hmz)); (have HBM := Lib.hid (Nat.le_trans HBr.out.size hmz)); (have HX := Lib.hid hX); clear hmz hX; replace HSr := Lib.hid (HSr.out.below hb); replace HIr := Lib.hid (HIr.out.below hb); clear c0 c1 c2 f0 f1 f2; replace KQr := Lib.hid (blk_below KQr.out hb); replace HBr := Lib.hid (HBr.out.trans (hb.mono HBr.out.size)); clear hb; (obtain ⟨c0, f0⟩ := Hp.blk_cell KQr.out 0 rfl); (obtain ⟨c1, f1⟩ := Hp.blk_cell KQr.out 1 rfl); (obtain ⟨c2, f2⟩ := Hp.blk_cell KQr.out 2 rfl)))
          | (go_at_call 14; ((have hm := finish_full (qT := st + 4) (qH := st + 3) HSr.out 0 (g := b) (p := p) (who := 3) HPS.out m HX.out HBM.out HQT.out HQH.out HLG.out HZ.out); (with_reducible refine hm.mono ?_); clear hm; rintro e w9 ⟨rfl, -, ⟨ps2, hi, hS⟩, hb, hF⟩; (have HPS2 := Lib.hid hi); clear c0 c1 c2 f0 f1 f2; replace KQr := Lib.hid (hF.blk KQr.out (fun z => by rcases z with z | z; exact absurd z (Nat.ne_of_lt HM2.out); exact not_touch KQr.out (blk_ne KQr.out (sys_cel HSr.out) (by decide)) (by decide) z)); replace HIr := Lib.hid (HIr.out.fr hF (fun z => by rcases z with z | z; exact absurd z (Nat.ne_of_lt HM1.out); exact HIr.out.far HGC.out z)); (have HS2 := Lib.hid hS); replace HBr := Lib.hid (HBr.out.trans hb); clear hi hS hb hF)))
        go_roundw
        case rel => exact ⟨k + 1, _, false, _, by omega, by go_num, HPS2, HS2, Lib.hid ⟨HCr.out.1.full 3 _ (st + 4) (st + 3) 0, Nat.le_trans (stS_len s 3 _ (st + 4) (st + 3) 0 2 (by omega)) (by have := HCr.out.2; omega)⟩, HIr, KQr, HBr⟩
        case measure => simp [intOf]; omega
      · have HZ := Lib.hid hz
        clear hz
        have hsl := HSL.out (rdT s 3 (st + 4)) (HCr.out.1.seen true 3 1 (st + 4) 0 0)
        have HQS := Lib.hid hsl
        clear hsl
        go_wp2_with (first
          | (go_at_call 13; ((with_reducible refine (windrowlaw07_plan.calls P T R P T R _ rfl).mono ?_); rintro e w9 ⟨rfl, hb⟩; replace HSr := Lib.hid (HSr.out.below hb); replace HIr := Lib.hid (HIr.out.below hb); clear c0 c1 c2 f0 f1 f2; replace KQr := Lib.hid (blk_below KQr.out hb); replace HBr := Lib.hid (HBr.out.trans (hb.mono HBr.out.size)); clear hb; (obtain ⟨c0, f0⟩ := Hp.blk_cell KQr.out 0 rfl); (obtain ⟨c1, f1⟩ := Hp.blk_cell KQr.out 1 rfl); (obtain ⟨c2, f2⟩ := Hp.blk_cell KQr.out 2 rfl)))
          | (go_at_call 12; ((with_reducible refine (newPush_yes _ P T R tm _ HRT.out hv1).mono ?_); rintro e w9 ⟨m, rfl, hmz, hX, hb⟩; (have HM1 := Lib.hid (Nat.lt_of_lt_of_le HIr.out.lt hmz)); (have HM2 := Lib.hid (Nat.lt_of_lt_of_le (blk_lt KQr.out) hmz)); (have HBM := Lib.hid (Nat.le_trans HBr.out.size hmz)); (have HX := Lib.hid hX); clear hmz hX; replace HSr := Lib.hid (HSr.out.below hb); replace HIr := Lib.hid (HIr.out.below hb); clear c0 c1 c2 f0 f1 f2; replace KQr := Lib.hid (blk_below KQr.out hb); replace HBr := Lib.hid (HBr.out.trans (hb.mono HBr.out.size)); clear hb; (obtain ⟨c0, f0⟩ := Hp.blk_cell KQr.out 0 rfl); (obtain ⟨c1, f1⟩ := Hp.blk_cell KQr.out 1 rfl); (obtain ⟨c2, f2⟩ := Hp.blk_cell KQr.out 2 rfl)))
          | (go_at_call 14; ((have hm := finish_room (qT := st + 4) (qH := st + 3) HSr.out 0 (g := b) (p := p) (who := 3) HPS.out m HX.out HBM.out HQT.out HQH.out HQS.out HLG.out (by have := HZ.out; omega)); (with_reducible refine hm.mono ?_); clear hm; rintro e w9 ⟨rfl, -, ⟨ps2, hi, hS⟩, hb, hF⟩; (have HPS2 := Lib.hid hi); clear c0 c1 c2 f0 f1 f2; replace KQr := Lib.hid (hF.blk KQr.out (fun z => by rcases z with z | z; exact absurd z (Nat.ne_of_lt HM2.out); exact not_touch KQr.out (blk_ne KQr.out (sys_cel HSr.out) (by decide)) (by decide) z)); replace HIr := Lib.hid (HIr.out.fr hF (fun z => by rcases z with z | z; exact absurd z (Nat.ne_of_lt HM1.out); exact HIr.out.far HGC.out z)); (have HS2 := Lib.hid hS); replace HBr := Lib.hid (HBr.out.trans hb); clear hi hS hb hF)))
        go_roundw
        case rel => exact ⟨k + 1, _, false, _, by omega, by go_num, HPS2, HS2, Lib.hid ⟨HCr.out.1.room 3 _ (st + 4) (st + 3) _ ⟨by have := HSB.out; omega, by have := HR0.out; omega⟩ ⟨by have := HSB.out; have := Int.emod_nonneg (rdT s 3 (st + 4)) (show R ≠ 0 by have := HR0.out; omega); omega, by have := HR0.out; have := Int.emod_nonneg (rdT s 3 (st + 4)) (show R ≠ 0 by omega); have := Int.emod_lt_of_pos (rdT s 3 (st + 4)) (show 0 < R by omega); omega⟩ (bits_nn _ _ _), Nat.le_trans (stS_len4 s 3 _ (st + 4) (st + 3) _) (by have := HCr.out.2; omega)⟩, HIr, KQr, HBr⟩
        case measure => simp [intOf]; omega
    · obtain rfl : k = M := by omega
      have hl1 : s.cells.length = N := by rw [HCr.out.1.len]; simp
      have HL1 := Lib.hid hl1
      clear hl1
      go_upto_region 17 with (first
        | (go_at_call 15; (with_reducible refine (windrowref06_Draw.calls 400 P T R P T R db de N _ HDR.out).mono ?_; rintro e wd ⟨rfl, hb⟩; replace HSr := Lib.hid (HSr.out.below hb); replace HIr := Lib.hid (HIr.out.below hb); clear c0 c1 c2 f0 f1 f2; replace KQr := Lib.hid (blk_below KQr.out hb); replace HBr := Lib.hid (HBr.out.trans (hb.mono HBr.out.size)); clear hb; (obtain ⟨c0, f0⟩ := Hp.blk_cell KQr.out 0 rfl); (obtain ⟨c1, f1⟩ := Hp.blk_cell KQr.out 1 rfl); (obtain ⟨c2, f2⟩ := Hp.blk_cell KQr.out 2 rfl))))
      have KD : Hid ((wd.alloc (.cells #[.int .i64 P, .int .i64 T, .int .i64 R, .int .i64 db, .int .i64 de, .int .i64 (N : Int)] 43)).heap[wd.heap.size]? = some (.cells #[.int .i64 P, .int .i64 T, .int .i64 R, .int .i64 db, .int .i64 de, .int .i64 (N : Int)] 43 (0, 0))) := Lib.hid (Hp.blk_new _ _)
      replace HSr := Lib.hid (HSr.out.alloc (.cells #[.int .i64 P, .int .i64 T, .int .i64 R, .int .i64 db, .int .i64 de, .int .i64 (N : Int)] 43))
      replace HIr := Lib.hid (HIr.out.of (Below.heap_alloc wd (.cells #[.int .i64 P, .int .i64 T, .int .i64 R, .int .i64 db, .int .i64 de, .int .i64 (N : Int)] 43) g1 HIr.out.lt))
      replace KQr := Lib.hid (Hp.blk_alloc KQr.out (.cells #[.int .i64 P, .int .i64 T, .int .i64 R, .int .i64 db, .int .i64 de, .int .i64 (N : Int)] 43))
      replace HBr := Lib.hid (HBr.out.alloc HBr.out.size (.cells #[.int .i64 P, .int .i64 T, .int .i64 R, .int .i64 db, .int .i64 de, .int .i64 (N : Int)] 43))
      clear c0 c1 c2 f0 f1 f2
      go_wp2_with (first
        | (go_at_call 11; ((have hm := HSr.out.image); (with_reducible refine hm.mono ?_); clear hm; rintro e w9 ⟨v1, rfl, hown, hF⟩; (obtain ⟨g2, cap2, rfl, hg2, hcap2, hI⟩ := img_at (n := N) (xs := s.cells) hown HL1.out (by have := HN.out; omega)); (have HI2 := Lib.hid hI); (have hb := below_fr hF); replace HIr := Lib.hid (HIr.out.below hb); replace KQr := Lib.hid (blk_below KQr.out hb); replace KD := Lib.hid (blk_below KD.out hb); replace HBr := Lib.hid (HBr.out.trans (hb.mono HBr.out.size)); clear hb hown hF hg2 hI)))
      obtain ⟨dx, hdx⟩ : ∃ dx, dx = wd.heap.size := ⟨_, rfl⟩
      rw [← hdx] at KD
      simp only [← hdx]
      clear hdx
      have hC1 := HCr.out.1
      obtain ⟨l1, hl1⟩ : ∃ l1, l1 = s.cells := ⟨_, rfl⟩
      rw [← hl1] at hC1
      have HL2 := HL1.out
      rw [← hl1] at HL2
      have HI3 := HI2.out
      rw [← hl1] at HI3
      have HCC := Lib.hid hC1
      have HLL := Lib.hid HL2
      have HIJ := Lib.hid HI3
      clear hl1 hC1 HL2 HI3 HI2 HL1 HCr HSr hM hM8 hkM HPS
      go_loopw [16] (fun i wr => ∃ (k : Nat), k ≤ N ∧ i = .int .i64 k ∧ Hid (Img wr g1 (List.replicate N 0)) ∧ Hid (Img wr g2 l1) ∧ Hid (wr.heap[dx]? = some (.cells #[.int .i64 P, .int .i64 T, .int .i64 R, .int .i64 db, .int .i64 de, .int .i64 (N : Int)] 43 (0, 0))) ∧ Hid (wr.heap[w.heap.size + 1]? = some (.cells #[.int .i64 P, .int .i64 T, .int .i64 R] 23 (0, 0))) ∧ Hid (Below w.heap.size w wr)) (fun i _ => N - (intOf i).toNat)
      case atStart => exact ⟨0, Nat.zero_le _, rfl, HIr, HIJ, KD, KQr, HBr⟩
      case round =>
        obtain ⟨k, hk, rfl, HI1, HI2, KD2, KQ2, HB2⟩ := hrel
        clear HIr HIJ KD KQr HBr
        have hN4 : N ≤ 400 := HN.out.2
        by_cases hkN : k < N
        · have hk1 : k < l1.length := by rw [HLL.out]; exact hkN
          have hk0 : k < (List.replicate N (0 : Int)).length := by simp; omega
          have y0 : (List.replicate N (0 : Int)).getD k 0 = 0 := by simp [List.getD_eq_getElem?_getD, List.getElem?_replicate, hkN]
          have hc1 := HI2.out.cell k hk1
          have hc0 := HI1.out.cell k hk0
          rw [y0] at hc0
          obtain ⟨x, hx0⟩ : ∃ x, x = l1.getD k 0 := ⟨_, rfl⟩
          rw [← hx0] at hc1
          have C01 := Lib.hid (And.intro hc0 hc1)
          clear hc0 hc1 y0 hk0 hk1
          rcases Classical.em (x = 0) with hx | hx
          · subst hx
            clear hx0
            go_upto_region 23 with (fail)
            refine Rg.Upto.start (fun w' => w'.cell? ⟨g1, k, none⟩ = some (.int .u64 0) ∧ w'.cell? ⟨g2, k, none⟩ = some (.int .u64 0) ∧ w'.heap[dx]? = some (.cells #[.int .i64 P, .int .i64 T, .int .i64 R, .int .i64 db, .int .i64 de, .int .i64 (N : Int)] 43 (0, 0)) ∧ w'.heap[w.heap.size + 1]? = some (.cells #[.int .i64 P, .int .i64 T, .int .i64 R] 23 (0, 0))) 1000 (by kernel_rfl) ⟨C01.out.1, C01.out.2, KD2.out, KQ2.out⟩ (fun HSC => ?_)
            refine Rg.Upto.takeA (i := 0) (v := ?_) rfl (by kernel_rfl) (by kernel_rfl) (by kernel_rfl) (of_decide_eq_true (by kernel_rfl)) (fun _ _ _ h => h) (by rfl) (fun w5 hS5 => ?_) HSC ?_
            rotate_left
            · obtain ⟨h1, h2, h3, h4⟩ := hS5
              clear h3 h4
              go_simp
              try rfl
            try simp only [Act.put, List.setIfInBounds_toArray, List.set_cons_zero, List.set_cons_succ]
            refine Rg.Upto.takeA (i := 1) (v := ?_) rfl (by kernel_rfl) (by kernel_rfl) (by kernel_rfl) (of_decide_eq_true (by kernel_rfl)) (fun _ _ _ h => h) (by rfl) (fun w5 hS5 => ?_) HSC ?_
            rotate_left
            · obtain ⟨h1, h2, h3, h4⟩ := hS5
              clear h3 h4
              go_simp
              try rfl
            try simp only [Act.put, List.setIfInBounds_toArray, List.set_cons_zero, List.set_cons_succ]
            refine Rg.Upto.takeA (i := 2) (v := ?_) rfl (by kernel_rfl) (by kernel_rfl) (by kernel_rfl) (of_decide_eq_true (by kernel_rfl)) (fun _ _ _ h => h) (by rfl) (fun w5 hS5 => ?_) HSC ?_
            rotate_left
            · obtain ⟨h1, h2, h3, h4⟩ := hS5
              clear h3 h4
              go_simp
              try rfl
            try simp only [Act.put, List.setIfInBounds_toArray, List.set_cons_zero, List.set_cons_succ]
            refine Rg.Upto.takeA (i := 3) (v := ?_) rfl (by kernel_rfl) (by kernel_rfl) (by kernel_rfl) (of_decide_eq_true (by kernel_rfl)) (fun _ _ _ h => h) (by rfl) (fun w5 hS5 => ?_) HSC ?_
            rotate_left
            · obtain ⟨h1, h2, h3, h4⟩ := hS5
              clear h3 h4
              go_simp
              try rfl
            try simp only [Act.put, List.setIfInBounds_toArray, List.set_cons_zero, List.set_cons_succ]
            refine Rg.Upto.takeA (i := 4) (v := ?_) rfl (by kernel_rfl) (by kernel_rfl) (by kernel_rfl) (of_decide_eq_true (by kernel_rfl)) (fun _ _ _ h => h) (by rfl) (fun w5 hS5 => ?_) HSC ?_
            rotate_left
            · obtain ⟨h1, h2, h3, h4⟩ := hS5
              clear h3 h4
              go_simp
              try rfl
            try simp only [Act.put, List.setIfInBounds_toArray, List.set_cons_zero, List.set_cons_succ]
            refine Rg.Upto.takeA (i := 5) (v := ?_) rfl (by kernel_rfl) (by kernel_rfl) (by kernel_rfl) (of_decide_eq_true (by kernel_rfl)) (fun _ _ _ h => h) (by rfl) (fun w5 hS5 => ?_) HSC ?_
            rotate_left
            · obtain ⟨h1, h2, h3, h4⟩ := hS5
              clear h3 h4
              go_simp
              try rfl
            try simp only [Act.put, List.setIfInBounds_toArray, List.set_cons_zero, List.set_cons_succ]
            refine Rg.Upto.takeA (i := 6) (v := ?_) rfl (by kernel_rfl) (by kernel_rfl) (by kernel_rfl) (of_decide_eq_true (by kernel_rfl)) (fun _ _ _ h => h) (by rfl) (fun w5 hS5 => ?_) HSC ?_
            rotate_left
            · obtain ⟨h1, h2, h3, h4⟩ := hS5
              clear h3 h4
              go_simp
              try rfl
            try simp only [Act.put, List.setIfInBounds_toArray, List.set_cons_zero, List.set_cons_succ]
            refine Rg.Upto.takeA (i := 7) (v := ?_) rfl (by kernel_rfl) (by kernel_rfl) (by kernel_rfl) (of_decide_eq_true (by kernel_rfl)) (fun _ _ _ h => h) (by rfl) (fun w5 hS5 => ?_) HSC ?_
            rotate_left
            · obtain ⟨h1, h2, h3, h4⟩ := hS5
              clear h3 h4
              go_simp
              try rfl
            try simp only [Act.put, List.setIfInBounds_toArray, List.set_cons_zero, List.set_cons_succ]
            refine Rg.Upto.takeA (i := 8) (v := ?_) rfl (by kernel_rfl) (by kernel_rfl) (by kernel_rfl) (of_decide_eq_true (by kernel_rfl)) (fun _ _ _ h => h) (by rfl) (fun w5 hS5 => ?_) HSC ?_
            rotate_left
            · obtain ⟨h1, h2, h3, h4⟩ := hS5
              clear h3 h4
              go_simp
              try rfl
            try simp only [Act.put, List.setIfInBounds_toArray, List.set_cons_zero, List.set_cons_succ]
            refine Rg.Upto.takeA (i := 9) (v := ?_) rfl (by kernel_rfl) (by kernel_rfl) (by kernel_rfl) (of_decide_eq_true (by kernel_rfl)) (fun _ _ _ h => h) (by rfl) (fun w5 hS5 => ?_) HSC ?_
            rotate_left
            · obtain ⟨h1, h2, h3, h4⟩ := hS5
              clear h3 h4
              go_simp
              try rfl
            try simp only [Act.put, List.setIfInBounds_toArray, List.set_cons_zero, List.set_cons_succ]
            refine Rg.Upto.skipA (i := 10) rfl (by kernel_rfl) (by kernel_rfl) (by kernel_rfl) (of_decide_eq_true (by kernel_rfl)) (fun _ _ _ h => h) (by rfl) HSC ?_
            try simp only [Act.put, List.setIfInBounds_toArray, List.set_cons_zero, List.set_cons_succ]
            refine Rg.Upto.skipA (i := 11) rfl (by kernel_rfl) (by kernel_rfl) (by kernel_rfl) (of_decide_eq_true (by kernel_rfl)) (fun _ _ _ h => h) (by rfl) HSC ?_
            try simp only [Act.put, List.setIfInBounds_toArray, List.set_cons_zero, List.set_cons_succ]
            refine Rg.Upto.skipA (i := 12) rfl (by kernel_rfl) (by kernel_rfl) (by kernel_rfl) (of_decide_eq_true (by kernel_rfl)) (fun _ _ _ h => h) (by rfl) HSC ?_
            try simp only [Act.put, List.setIfInBounds_toArray, List.set_cons_zero, List.set_cons_succ]
            refine Rg.Upto.skipA (i := 13) rfl (by kernel_rfl) (by kernel_rfl) (by kernel_rfl) (of_decide_eq_true (by kernel_rfl)) (fun _ _ _ h => h) (by rfl) HSC ?_
            try simp only [Act.put, List.setIfInBounds_toArray, List.set_cons_zero, List.set_cons_succ]
            refine Rg.Upto.skipA (i := 14) rfl (by kernel_rfl) (by kernel_rfl) (by kernel_rfl) (of_decide_eq_true (by kernel_rfl)) (fun _ _ _ h => h) (by rfl) HSC ?_
            try simp only [Act.put, List.setIfInBounds_toArray, List.set_cons_zero, List.set_cons_succ]
            refine Rg.Upto.skipA (i := 15) rfl (by kernel_rfl) (by kernel_rfl) (by kernel_rfl) (of_decide_eq_true (by kernel_rfl)) (fun _ _ _ h => h) (by rfl) HSC ?_
            try simp only [Act.put, List.setIfInBounds_toArray, List.set_cons_zero, List.set_cons_succ]
            refine Rg.Upto.skipA (i := 16) rfl (by kernel_rfl) (by kernel_rfl) (by kernel_rfl) (of_decide_eq_true (by kernel_rfl)) (fun _ _ _ h => h) (by rfl) HSC ?_
            try simp only [Act.put, List.setIfInBounds_toArray, List.set_cons_zero, List.set_cons_succ]
            refine Rg.Upto.skipA (i := 17) rfl (by kernel_rfl) (by kernel_rfl) (by kernel_rfl) (of_decide_eq_true (by kernel_rfl)) (fun _ _ _ h => h) (by rfl) HSC ?_
            try simp only [Act.put, List.setIfInBounds_toArray, List.set_cons_zero, List.set_cons_succ]
            refine Rg.Upto.skipA (i := 18) rfl (by kernel_rfl) (by kernel_rfl) (by kernel_rfl) (of_decide_eq_true (by kernel_rfl)) (fun _ _ _ h => h) (by rfl) HSC ?_
            try simp only [Act.put, List.setIfInBounds_toArray, List.set_cons_zero, List.set_cons_succ]
            refine Rg.Upto.skipA (i := 19) rfl (by kernel_rfl) (by kernel_rfl) (by kernel_rfl) (of_decide_eq_true (by kernel_rfl)) (fun _ _ _ h => h) (by rfl) HSC ?_
            try simp only [Act.put, List.setIfInBounds_toArray, List.set_cons_zero, List.set_cons_succ]
            refine Rg.Upto.skipA (i := 20) rfl (by kernel_rfl) (by kernel_rfl) (by kernel_rfl) (of_decide_eq_true (by kernel_rfl)) (fun _ _ _ h => h) (by rfl) HSC ?_
            try simp only [Act.put, List.setIfInBounds_toArray, List.set_cons_zero, List.set_cons_succ]
            refine Rg.Upto.skipA (i := 21) rfl (by kernel_rfl) (by kernel_rfl) (by kernel_rfl) (of_decide_eq_true (by kernel_rfl)) (fun _ _ _ h => h) (by rfl) HSC ?_
            try simp only [Act.put, List.setIfInBounds_toArray, List.set_cons_zero, List.set_cons_succ]
            refine Rg.Upto.skipA (i := 22) rfl (by kernel_rfl) (by kernel_rfl) (by kernel_rfl) (of_decide_eq_true (by kernel_rfl)) (fun _ _ _ h => h) (by rfl) HSC ?_
            try simp only [Act.put, List.setIfInBounds_toArray, List.set_cons_zero, List.set_cons_succ]
            refine Rg.Upto.skipA (i := 23) rfl (by kernel_rfl) (by kernel_rfl) (by kernel_rfl) (of_decide_eq_true (by kernel_rfl)) (fun _ _ _ h => h) (by rfl) HSC ?_
            try simp only [Act.put, List.setIfInBounds_toArray, List.set_cons_zero, List.set_cons_succ]
            refine Rg.Upto.skipA (i := 24) rfl (by kernel_rfl) (by kernel_rfl) (by kernel_rfl) (of_decide_eq_true (by kernel_rfl)) (fun _ _ _ h => h) (by rfl) HSC ?_
            try simp only [Act.put, List.setIfInBounds_toArray, List.set_cons_zero, List.set_cons_succ]
            refine Rg.Upto.skipA (i := 25) rfl (by kernel_rfl) (by kernel_rfl) (by kernel_rfl) (of_decide_eq_true (by kernel_rfl)) (fun _ _ _ h => h) (by rfl) HSC ?_
            try simp only [Act.put, List.setIfInBounds_toArray, List.set_cons_zero, List.set_cons_succ]
            refine Rg.Upto.skipA (i := 26) rfl (by kernel_rfl) (by kernel_rfl) (by kernel_rfl) (of_decide_eq_true (by kernel_rfl)) (fun _ _ _ h => h) (by rfl) HSC ?_
            try simp only [Act.put, List.setIfInBounds_toArray, List.set_cons_zero, List.set_cons_succ]
            refine Rg.Upto.takeA (i := 27) (v := ?_) rfl (by kernel_rfl) (by kernel_rfl) (by kernel_rfl) (of_decide_eq_true (by kernel_rfl)) (fun _ _ _ h => h) (by rfl) (fun w5 hS5 => ?_) HSC ?_
            rotate_left
            · obtain ⟨h1, h2, h3, h4⟩ := hS5
              clear h3 h4
              go_simp
              try rfl
            try simp only [Act.put, List.setIfInBounds_toArray, List.set_cons_zero, List.set_cons_succ]
            clear HSC
            refine Rg.Upto.done (by kernel_rfl) ?_
            go_wp2_with (fail)
            go_roundw
            case rel => exact ⟨k + 1, by omega, by go_num, Lib.hid (HI1.out.of rfl), Lib.hid (HI2.out.of rfl), Lib.hid KD2.out, Lib.hid KQ2.out, Lib.hid HB2.out.drew⟩
            case measure => simp [intOf]; omega
          · have hin : st + 4 ≤ (k : Int) ∧ (k : Int) < st + 5 + R := by
              rcases Classical.em (st + 4 ≤ (k : Int) ∧ (k : Int) < st + 5 + R) with h | h
              · exact h
              · have := HCC.out.same k h
                exfalso; apply hx
                rw [hx0, List.getD_eq_getElem?_getD, this]
                simp [List.getElem?_replicate, hkN]
            clear hx0
            have hx1 : (x == 0) = false := by simp [hx]
            have hx2 : (x != 0) = true := by simp [hx]
            go_upto_region 23 with (fail)
            replace HI1 := Lib.hid (HI1.out.of (w' := wr.drew) rfl)
            replace HI2 := Lib.hid (HI2.out.of (w' := wr.drew) rfl)
            have KD3 : Hid (wr.drew.heap[dx]? = some (.cells #[.int .i64 P, .int .i64 T, .int .i64 R, .int .i64 db, .int .i64 de, .int .i64 (N : Int)] 43 (0, 0))) := Lib.hid KD2.out
            have KQ3 : Hid (wr.drew.heap[w.heap.size + 1]? = some (.cells #[.int .i64 P, .int .i64 T, .int .i64 R] 23 (0, 0))) := Lib.hid KQ2.out
            clear KD2 KQ2
            have KD2 := KD3
            have KQ2 := KQ3
            clear KD3 KQ3
            replace HB2 := Lib.hid HB2.out.drew
            refine Rg.Upto.start (fun w' => w'.cell? ⟨g1, k, none⟩ = some (.int .u64 0) ∧ w'.cell? ⟨g2, k, none⟩ = some (.int .u64 x) ∧ w'.heap[dx]? = some (.cells #[.int .i64 P, .int .i64 T, .int .i64 R, .int .i64 db, .int .i64 de, .int .i64 (N : Int)] 43 (0, 0)) ∧ w'.heap[w.heap.size + 1]? = some (.cells #[.int .i64 P, .int .i64 T, .int .i64 R] 23 (0, 0))) 1000 (by kernel_rfl) ⟨C01.out.1, C01.out.2, KD2.out, KQ2.out⟩ (fun HSC => ?_)
            refine Rg.Upto.takeA (i := 0) (v := ?_) rfl (by kernel_rfl) (by kernel_rfl) (by kernel_rfl) (of_decide_eq_true (by kernel_rfl)) (fun _ _ _ h => h) (by rfl) (fun w5 hS5 => ?_) HSC ?_
            rotate_left
            · obtain ⟨h1, h2, h3, h4⟩ := hS5
              clear h3 h4
              go_simp
              try rfl
            try simp only [Act.put, List.setIfInBounds_toArray, List.set_cons_zero, List.set_cons_succ]
            refine Rg.Upto.takeA (i := 1) (v := ?_) rfl (by kernel_rfl) (by kernel_rfl) (by kernel_rfl) (of_decide_eq_true (by kernel_rfl)) (fun _ _ _ h => h) (by rfl) (fun w5 hS5 => ?_) HSC ?_
            rotate_left
            · obtain ⟨h1, h2, h3, h4⟩ := hS5
              clear h3 h4
              go_simp
              try rfl
            try simp only [Act.put, List.setIfInBounds_toArray, List.set_cons_zero, List.set_cons_succ]
            refine Rg.Upto.takeA (i := 2) (v := ?_) rfl (by kernel_rfl) (by kernel_rfl) (by kernel_rfl) (of_decide_eq_true (by kernel_rfl)) (fun _ _ _ h => h) (by rfl) (fun w5 hS5 => ?_) HSC ?_
            rotate_left
            · obtain ⟨h1, h2, h3, h4⟩ := hS5
              clear h3 h4
              go_simp
              try rfl
            try simp only [Act.put, List.setIfInBounds_toArray, List.set_cons_zero, List.set_cons_succ]
            refine Rg.Upto.takeA (i := 3) (v := ?_) rfl (by kernel_rfl) (by kernel_rfl) (by kernel_rfl) (of_decide_eq_true (by kernel_rfl)) (fun _ _ _ h => h) (by rfl) (fun w5 hS5 => ?_) HSC ?_
            rotate_left
            · obtain ⟨h1, h2, h3, h4⟩ := hS5
              clear h3 h4
              go_simp
              try rfl
            try simp only [Act.put, List.setIfInBounds_toArray, List.set_cons_zero, List.set_cons_succ]
            refine Rg.Upto.takeA (i := 4) (v := ?_) rfl (by kernel_rfl) (by kernel_rfl) (by kernel_rfl) (of_decide_eq_true (by kernel_rfl)) (fun _ _ _ h => h) (by rfl) (fun w5 hS5 => ?_) HSC ?_
            rotate_left
            · obtain ⟨h1, h2, h3, h4⟩ := hS5
              clear h3 h4
              go_simp
              try rfl
            try simp only [Act.put, List.setIfInBounds_toArray, List.set_cons_zero, List.set_cons_succ]
            refine Rg.Upto.takeA (i := 5) (v := ?_) rfl (by kernel_rfl) (by kernel_rfl) (by kernel_rfl) (of_decide_eq_true (by kernel_rfl)) (fun _ _ _ h => h) (by rfl) (fun w5 hS5 => ?_) HSC ?_
            rotate_left
            · obtain ⟨h1, h2, h3, h4⟩ := hS5
              clear h3 h4
              go_simp
              try rfl
            try simp only [Act.put, List.setIfInBounds_toArray, List.set_cons_zero, List.set_cons_succ]
            refine Rg.Upto.takeA (i := 6) (v := ?_) rfl (by kernel_rfl) (by kernel_rfl) (by kernel_rfl) (of_decide_eq_true (by kernel_rfl)) (fun _ _ _ h => h) (by rfl) (fun w5 hS5 => ?_) HSC ?_
            rotate_left
            · obtain ⟨h1, h2, h3, h4⟩ := hS5
              clear h3 h4
              go_simp
              try rfl
            try simp only [Act.put, List.setIfInBounds_toArray, List.set_cons_zero, List.set_cons_succ]
            refine Rg.Upto.takeA (i := 7) (v := ?_) rfl (by kernel_rfl) (by kernel_rfl) (by kernel_rfl) (of_decide_eq_true (by kernel_rfl)) (fun _ _ _ h => h) (by rfl) (fun w5 hS5 => ?_) HSC ?_
            rotate_left
            · obtain ⟨h1, h2, h3, h4⟩ := hS5
              clear h3 h4
              go_simp
              try rfl
            try simp only [Act.put, List.setIfInBounds_toArray, List.set_cons_zero, List.set_cons_succ]
            refine Rg.Upto.takeA (i := 8) (v := ?_) rfl (by kernel_rfl) (by kernel_rfl) (by kernel_rfl) (of_decide_eq_true (by kernel_rfl)) (fun _ _ _ h => h) (by rfl) (fun w5 hS5 => ?_) HSC ?_
            rotate_left
            · obtain ⟨h1, h2, h3, h4⟩ := hS5
              clear h3 h4
              go_simp
              try rfl
            try simp only [Act.put, List.setIfInBounds_toArray, List.set_cons_zero, List.set_cons_succ]
            refine Rg.Upto.takeA (i := 9) (v := ?_) rfl (by kernel_rfl) (by kernel_rfl) (by kernel_rfl) (of_decide_eq_true (by kernel_rfl)) (fun _ _ _ h => h) (by rfl) (fun w5 hS5 => ?_) HSC ?_
            rotate_left
            · obtain ⟨h1, h2, h3, h4⟩ := hS5
              clear h3 h4
              go_simp
              try rfl
            try simp only [Act.put, List.setIfInBounds_toArray, List.set_cons_zero, List.set_cons_succ]
            refine Rg.Upto.takeA (i := 10) (v := ?_) rfl (by kernel_rfl) (by kernel_rfl) (by kernel_rfl) (of_decide_eq_true (by kernel_rfl)) (fun _ _ _ h => h) (by rfl) (fun w5 hS5 => ?_) HSC ?_
            rotate_left
            · obtain ⟨h1, h2, h3, h4⟩ := hS5
              clear h3 h4
              go_simp
              try rfl
            try simp only [Act.put, List.setIfInBounds_toArray, List.set_cons_zero, List.set_cons_succ]
            refine Rg.Upto.takeA (i := 11) (v := ?_) rfl (by kernel_rfl) (by kernel_rfl) (by kernel_rfl) (of_decide_eq_true (by kernel_rfl)) (fun _ _ _ h => h) (by rfl) (fun w5 hS5 => ?_) HSC ?_
            rotate_left
            · obtain ⟨h1, h2, h3, h4⟩ := hS5
              have e0 := (Hp.blk_cell h3 0 rfl).1
              have e1 := (Hp.blk_cell h3 1 rfl).1
              have e2 := (Hp.blk_cell h3 2 rfl).1
              have e3 := (Hp.blk_cell h3 3 rfl).1
              have e4 := (Hp.blk_cell h3 4 rfl).1
              have e5 := (Hp.blk_cell h3 5 rfl).1
              clear h3 h4
              go_simp
              try rfl
            try simp only [Act.put, List.setIfInBounds_toArray, List.set_cons_zero, List.set_cons_succ]
            refine Rg.Upto.takeA (i := 12) (v := ?_) rfl (by kernel_rfl) (by kernel_rfl) (by kernel_rfl) (of_decide_eq_true (by kernel_rfl)) (fun _ _ _ h => h) (by rfl) (fun w5 hS5 => ?_) HSC ?_
            rotate_left
            · obtain ⟨h1, h2, h3, h4⟩ := hS5
              clear h3 h4
              go_simp
              try rfl
            try simp only [Act.put, List.setIfInBounds_toArray, List.set_cons_zero, List.set_cons_succ]
            refine Rg.Upto.one (i := 13) rfl (by kernel_rfl) (by rfl) (fun KK hK => ?_)
            go_simp
            (with_reducible refine (windrowref06_Map_Status.calls P T R db de (N : Int) tm _ _ HST.out).mono ?_)
            rintro e w6 ⟨rfl, hb⟩
            have HSC2 := And.intro (cell_below hb HSC.1) (And.intro (cell_below hb HSC.2.1) (And.intro (blk_below HSC.2.2.1 hb) (blk_below HSC.2.2.2 hb)))
            replace HI1 := Lib.hid (HI1.out.below hb)
            replace HI2 := Lib.hid (HI2.out.below hb)
            replace KD2 := Lib.hid (blk_below KD2.out hb)
            replace KQ2 := Lib.hid (blk_below KQ2.out hb)
            replace HB2 := Lib.hid (HB2.out.trans (hb.mono HB2.out.size))
            refine hK.out _ _ HSC2 ?_
            clear hK KK HSC hb
            have HSC := HSC2
            clear HSC2
            try simp only [Act.put, List.setIfInBounds_toArray, List.set_cons_zero, List.set_cons_succ]
            refine Rg.Upto.takeA (i := 14) (v := ?_) rfl (by kernel_rfl) (by kernel_rfl) (by kernel_rfl) (of_decide_eq_true (by kernel_rfl)) (fun _ _ _ h => h) (by rfl) (fun w5 hS5 => ?_) HSC ?_
            rotate_left
            · obtain ⟨h1, h2, h3, h4⟩ := hS5
              clear h3 h4
              go_simp
              try rfl
            try simp only [Act.put, List.setIfInBounds_toArray, List.set_cons_zero, List.set_cons_succ]
            refine Rg.Upto.takeA (i := 15) (v := ?_) rfl (by kernel_rfl) (by kernel_rfl) (by kernel_rfl) (of_decide_eq_true (by kernel_rfl)) (fun _ _ _ h => h) (by rfl) (fun w5 hS5 => ?_) HSC ?_
            rotate_left
            · obtain ⟨h1, h2, h3, h4⟩ := hS5
              clear h3 h4
              go_simp
              try rfl
            try simp only [Act.put, List.setIfInBounds_toArray, List.set_cons_zero, List.set_cons_succ]
            simp only [i64_small (x := st + 4) (by have := HSB.out; have := HR0.out; omega) (by have := HSB.out; have := HR0.out; omega), decide_eq_false (p := (k : Int) < st + 4) (by omega)]
            refine Rg.Upto.takeA (i := 16) (v := ?_) rfl (by kernel_rfl) (by kernel_rfl) (by kernel_rfl) (of_decide_eq_true (by kernel_rfl)) (fun _ _ _ h => h) (by rfl) (fun w5 hS5 => ?_) HSC ?_
            rotate_left
            · obtain ⟨h1, h2, h3, h4⟩ := hS5
              clear h3 h4
              go_simp
              try rfl
            try simp only [Act.put, List.setIfInBounds_toArray, List.set_cons_zero, List.set_cons_succ]
            refine Rg.Upto.takeA (i := 17) (v := ?_) rfl (by kernel_rfl) (by kernel_rfl) (by kernel_rfl) (of_decide_eq_true (by kernel_rfl)) (fun _ _ _ h => h) (by rfl) (fun w5 hS5 => ?_) HSC ?_
            rotate_left
            · obtain ⟨h1, h2, h3, h4⟩ := hS5
              clear h3 h4
              go_simp
              try rfl
            try simp only [Act.put, List.setIfInBounds_toArray, List.set_cons_zero, List.set_cons_succ]
            refine Rg.Upto.takeA (i := 18) (v := ?_) rfl (by kernel_rfl) (by kernel_rfl) (by kernel_rfl) (of_decide_eq_true (by kernel_rfl)) (fun _ _ _ h => h) (by rfl) (fun w5 hS5 => ?_) HSC ?_
            rotate_left
            · obtain ⟨h1, h2, h3, h4⟩ := hS5
              have e0 := (Hp.blk_cell h3 0 rfl).1
              have e1 := (Hp.blk_cell h3 1 rfl).1
              have e2 := (Hp.blk_cell h3 2 rfl).1
              have e3 := (Hp.blk_cell h3 3 rfl).1
              have e4 := (Hp.blk_cell h3 4 rfl).1
              have e5 := (Hp.blk_cell h3 5 rfl).1
              clear h3 h4
              go_simp
              try rfl
            try simp only [Act.put, List.setIfInBounds_toArray, List.set_cons_zero, List.set_cons_succ]
            refine Rg.Upto.takeA (i := 19) (v := ?_) rfl (by kernel_rfl) (by kernel_rfl) (by kernel_rfl) (of_decide_eq_true (by kernel_rfl)) (fun _ _ _ h => h) (by rfl) (fun w5 hS5 => ?_) HSC ?_
            rotate_left
            · obtain ⟨h1, h2, h3, h4⟩ := hS5
              clear h3 h4
              go_simp
              try rfl
            try simp only [Act.put, List.setIfInBounds_toArray, List.set_cons_zero, List.set_cons_succ]
            refine Rg.Upto.takeA (i := 22) (v := ?_) rfl (by kernel_rfl) (by kernel_rfl) (by kernel_rfl) (of_decide_eq_true (by kernel_rfl)) (fun _ _ _ h => h) (by rfl) (fun w5 hS5 => ?_) HSC ?_
            rotate_left
            · obtain ⟨h1, h2, h3, h4⟩ := hS5
              clear h3 h4
              go_simp
              try rfl
            try simp only [Act.put, List.setIfInBounds_toArray, List.set_cons_zero, List.set_cons_succ]
            refine Rg.Upto.takeA (i := 23) (v := ?_) rfl (by kernel_rfl) (by kernel_rfl) (by kernel_rfl) (of_decide_eq_true (by kernel_rfl)) (fun _ _ _ h => h) (by rfl) (fun w5 hS5 => ?_) HSC ?_
            rotate_left
            · obtain ⟨h1, h2, h3, h4⟩ := hS5
              have e2 := (Hp.blk_cell h4 2 rfl).1
              clear h3 h4
              go_simp
              try rfl
            try simp only [Act.put, List.setIfInBounds_toArray, List.set_cons_zero, List.set_cons_succ]
            refine Rg.Upto.one (i := 20) rfl (by kernel_rfl) (by rfl) (fun KK hK => ?_)
            go_simp
            (with_reducible refine (windrowref06_Map_Status.calls P T R db de (N : Int) tm _ _ HST.out).mono ?_)
            rintro e w6 ⟨rfl, hb⟩
            have HSC2 := And.intro (cell_below hb HSC.1) (And.intro (cell_below hb HSC.2.1) (And.intro (blk_below HSC.2.2.1 hb) (blk_below HSC.2.2.2 hb)))
            replace HI1 := Lib.hid (HI1.out.below hb)
            replace HI2 := Lib.hid (HI2.out.below hb)
            replace KD2 := Lib.hid (blk_below KD2.out hb)
            replace KQ2 := Lib.hid (blk_below KQ2.out hb)
            replace HB2 := Lib.hid (HB2.out.trans (hb.mono HB2.out.size))
            refine hK.out _ _ HSC2 ?_
            clear hK KK HSC hb
            have HSC := HSC2
            clear HSC2
            try simp only [Act.put, List.setIfInBounds_toArray, List.set_cons_zero, List.set_cons_succ]
            refine Rg.Upto.takeA (i := 21) (v := ?_) rfl (by kernel_rfl) (by kernel_rfl) (by kernel_rfl) (of_decide_eq_true (by kernel_rfl)) (fun _ _ _ h => h) (by rfl) (fun w5 hS5 => ?_) HSC ?_
            rotate_left
            · obtain ⟨h1, h2, h3, h4⟩ := hS5
              clear h3 h4
              go_simp
              try rfl
            try simp only [Act.put, List.setIfInBounds_toArray, List.set_cons_zero, List.set_cons_succ]
            refine Rg.Upto.takeA (i := 24) (v := ?_) rfl (by kernel_rfl) (by kernel_rfl) (by kernel_rfl) (of_decide_eq_true (by kernel_rfl)) (fun _ _ _ h => h) (by rfl) (fun w5 hS5 => ?_) HSC ?_
            rotate_left
            · obtain ⟨h1, h2, h3, h4⟩ := hS5
              clear h3 h4
              go_simp
              try rfl
            try simp only [Act.put, List.setIfInBounds_toArray, List.set_cons_zero, List.set_cons_succ]
            refine Rg.Upto.takeA (i := 25) (v := ?_) rfl (by kernel_rfl) (by kernel_rfl) (by kernel_rfl) (of_decide_eq_true (by kernel_rfl)) (fun _ _ _ h => h) (by rfl) (fun w5 hS5 => ?_) HSC ?_
            rotate_left
            · obtain ⟨h1, h2, h3, h4⟩ := hS5
              clear h3 h4
              go_simp
              try rfl
            try simp only [Act.put, List.setIfInBounds_toArray, List.set_cons_zero, List.set_cons_succ]
            simp only [i64_small (x := st + 5) (by have := HSB.out; have := HR0.out; omega) (by have := HSB.out; have := HR0.out; omega), i64_small (x := st + 5 + R) (by have := HSB.out; have := HR0.out; omega) (by have := HSB.out; have := HR0.out; omega), decide_eq_false (p := st + 5 + R ≤ (k : Int)) (by omega)]
            refine Rg.Upto.takeA (i := 26) (v := ?_) rfl (by kernel_rfl) (by kernel_rfl) (by kernel_rfl) (of_decide_eq_true (by kernel_rfl)) (fun _ _ _ h => h) (by rfl) (fun w5 hS5 => ?_) HSC ?_
            rotate_left
            · obtain ⟨h1, h2, h3, h4⟩ := hS5
              clear h3 h4
              go_simp
              try rfl
            try simp only [Act.put, List.setIfInBounds_toArray, List.set_cons_zero, List.set_cons_succ]
            refine Rg.Upto.takeA (i := 27) (v := ?_) rfl (by kernel_rfl) (by kernel_rfl) (by kernel_rfl) (of_decide_eq_true (by kernel_rfl)) (fun _ _ _ h => h) (by rfl) (fun w5 hS5 => ?_) HSC ?_
            rotate_left
            · obtain ⟨h1, h2, h3, h4⟩ := hS5
              clear h3 h4
              go_simp
              try rfl
            try simp only [Act.put, List.setIfInBounds_toArray, List.set_cons_zero, List.set_cons_succ]
            clear HSC
            refine Rg.Upto.done (by kernel_rfl) ?_
            go_wp2_with (fail)
            go_roundw
            case rel => exact ⟨k + 1, by omega, by go_num, HI1, HI2, KD2, KQ2, HB2⟩
            case measure => simp [intOf]; omega
        · obtain rfl : k = N := by omega
          go_wp2_with (fail)
          go_ret
          exact ⟨rfl, HB2.out⟩
end Go.Proofs.Ytdcikbhfoplkmaa.Ar

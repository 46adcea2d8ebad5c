/- RingOrder, walked. -/
import Derived.Test.YtdcikbhfoplkmaaQs
namespace Go.Proofs.Ytdcikbhfoplkmaa.Ar
open Go Go.RowKit Go.Proofs.Ytdcikbhfoplkmaa.Hp Go.Proofs.Ytdcikbhfoplkmaa.PH
open Go.Proofs.YtdcikbhfoplkmaaW.PrintWords (Kd)
set_option linter.unusedVariables false
set_option linter.unusedSimpArgs false

theorem nn_wf {x : Int} (h : (Lit.int .u64 x).wf = true) : 0 ≤ x := by
  have h' : IntKind.u64.min ≤ x ∧ x ≤ IntKind.u64.max := by simpa [Lit.wf] using h
  exact h'.1
theorem row_bools {w : World} {A : Option Addr} {n : Nat} {xs : List Bool} (h : Kd.C Kd.bool w A n xs) (hn : 0 < n) : ∃ ad, A = some ad ∧ ∀ i, i < n → w.cell? (ad.add i) = some (.bool (xs.getD i false)) := by
  obtain ⟨ad, e, hc⟩ := h.2.2 hn
  refine ⟨ad, e, fun i hi => ?_⟩
  have hl : i < xs.length := by have := h.1; omega
  obtain ⟨c, hs, hr, hcell⟩ := hc i _ (List.getElem?_eq_getElem hl)
  have hr' : c = [.bool xs[i]] := hr
  subst hr'
  have := hcell 0 (.bool xs[i]) rfl
  have e1 : Kd.bool.sz = 1 := rfl
  rw [e1, Nat.mul_one, Nat.add_zero] at this
  rw [this, List.getD_eq_getElem?_getD, List.getElem?_eq_getElem hl]
  rfl
theorem sm_head (a b R c d e : Int) : windrowref06_Map_Head.f a b R c d e 0 = some 19 := by
  unfold windrowref06_Map_Head.f windrowref06_Map_Status.f
  simp [wrap64]
theorem sm_tail (a b R c d e : Int) : windrowref06_Map_Tail.f a b R c d e 0 = some 20 := by
  unfold windrowref06_Map_Tail.f windrowref06_Map_Status.f
  simp [wrap64]
/-- The arena at first, head and tail set. -/
theorem vw_start {N : Nat} {R F : Int} (h0 : 1 ≤ R) (hN : 21 + R ≤ N) : Vw (((⟨List.replicate N 0, [], true, 0, 0⟩ : AS).poked 19 F).poked 20 F) R F F (fun _ => 0) := by
  have l19 : 19 < (List.replicate N (0 : Int)).length := by simp; omega
  refine ⟨by simp [AS.poked]; omega, ?_, ?_, fun j j0 j1 => ?_, rfl⟩
  · simp only [AS.poked]
    rw [getD_set2 _ _ _ _ (by simp; omega), if_neg (by decide), getD_set2 _ _ _ _ (by simp; omega), if_pos (by decide)]
  · simp only [AS.poked]
    rw [getD_set2 _ _ _ _ (by simp; omega), if_pos (by decide)]
  · simp only [AS.poked]
    rw [getD_set2 _ _ _ _ (by simp; omega), if_neg (by omega), getD_set2 _ _ _ _ (by simp; omega), if_neg (by omega)]
    simp [List.getD_eq_getElem?_getD, List.getElem?_replicate]
    split <;> rfl
set_option maxHeartbeats 8000000 in
set_option maxRecDepth 100000 in
theorem order (size from_ : Int) (A : Option Addr) (cp : Nat) (l : List Bool) (w : World) (hf : 0 ≤ from_) (hr : Kd.C Kd.bool w A l.length l) :
    Calls Try.prog 6 #[.int .i64 size, .int .u64 from_, .slice A l.length cp] w fun e w' => e = .returned (.bool true) ∧ Below w.heap.size w w' := by
  obtain ⟨P, T, R, hsm, hok⟩ := sm_small 0 0 size
  have HSM := Lib.hid hsm
  have HR := Lib.hid hr
  have HB := Lib.hid (Below.refl w.heap.size w)
  have hok2 := hok
  unfold smOk at hok2
  obtain ⟨N, hN⟩ : ∃ N : Nat, N = (64 + 64 * P).toNat := ⟨_, rfl⟩
  have hN1 : 128 ≤ N ∧ N ≤ 400 := by omega
  have hCe := sm_cells hok
  rw [← hN] at hCe
  have HCE := Lib.hid hCe
  obtain ⟨db, de, hDr⟩ := sm_draw hok
  rw [← hN] at hDr
  have HDR := Lib.hid hDr
  have HN := Lib.hid hN1
  have HOK := Lib.hid hok
  obtain ⟨F, hF⟩ : ∃ F, F = from_ % 4611686018427387904 := ⟨_, rfl⟩
  have HF := Lib.hid (show 0 ≤ F ∧ F < 4611686018427387904 by omega)
  clear hsm hr hok hok2 hN hN1 hCe hDr
  go_enter Try.func6, Try.ntmps6
  go_upto_region 4 with (first
    | (go_at_call 8; ((with_reducible refine (ringed _).mono ?_); rintro e w9 ⟨rfl, hb⟩; replace HB := Lib.hid (HB.out.trans (hb.mono HB.out.size)); clear hb))
    | (go_at_call 9; ((with_reducible refine (windrowlaw07_small.calls 0 0 size P T R _ HSM.out).mono ?_); rintro e wa ⟨rfl, hb⟩; replace HB := Lib.hid (HB.out.trans (hb.mono HB.out.size)); clear hb)))
  have KQ : Hid ((wa.alloc (.cells #[.int .i64 P, .int .i64 T, .int .i64 R] 23)).heap[wa.heap.size]? = some (.cells #[.int .i64 P, .int .i64 T, .int .i64 R] 23 (0, 0))) := Lib.hid (Hp.blk_new _ _)
  have HQX0 := HB.out.size
  replace HB := Lib.hid (HB.out.alloc HB.out.size (.cells #[.int .i64 P, .int .i64 T, .int .i64 R] 23))
  obtain ⟨qx, hqx⟩ : ∃ qx, qx = wa.heap.size := ⟨_, rfl⟩
  have HQX := Lib.hid (show w.heap.size ≤ qx by rw [hqx]; exact HQX0)
  clear HQX0
  rw [← hqx] at KQ
  generalize wa.alloc (.cells #[.int .i64 P, .int .i64 T, .int .i64 R] 23) = wq at KQ HB ⊢
  simp only [← hqx]
  clear hqx
  have HQL := Lib.hid (blk_lt KQ.out)
  have HB1 := Lib.hid HB.out.size
  (obtain ⟨c0, -⟩ := Hp.blk_cell KQ.out 0 rfl)
  (obtain ⟨c1, -⟩ := Hp.blk_cell KQ.out 1 rfl)
  (obtain ⟨c2, -⟩ := Hp.blk_cell KQ.out 2 rfl)
  go_upto_region 9 with (first
    | (go_at_call 10; ((have hlay := lay wq P T R 0 N 400 HCE.out (by have := HN.out; omega) (by have := HN.out; omega) (by decide) (by decide)); (with_reducible refine hlay.mono ?_); clear hlay; rintro e w9 ⟨a, cc, p, rfl, hS, hb⟩; (have HS := Lib.hid hS); clear hS; clear c0 c1 c2; replace KQ := Lib.hid (blk_below KQ.out hb); (obtain ⟨c0, -⟩ := Hp.blk_cell KQ.out 0 rfl); (obtain ⟨c1, -⟩ := Hp.blk_cell KQ.out 1 rfl); (obtain ⟨c2, -⟩ := Hp.blk_cell KQ.out 2 rfl); replace HB := Lib.hid (HB.out.trans (hb.mono HB.out.size)); clear hb))
    | (go_at_call 30; ((have hm := HS.out.port 15 (by decide) (by decide)); (with_reducible refine hm.mono ?_); clear hm; rintro e w9 ⟨c, rfl, hS, hb, -⟩; replace HS := Lib.hid hS; clear hS; clear c0 c1 c2; replace KQ := Lib.hid (blk_below KQ.out hb); (obtain ⟨c0, -⟩ := Hp.blk_cell KQ.out 0 rfl); (obtain ⟨c1, -⟩ := Hp.blk_cell KQ.out 1 rfl); (obtain ⟨c2, -⟩ := Hp.blk_cell KQ.out 2 rfl); replace HB := Lib.hid (HB.out.trans (hb.mono HB.out.size)); clear hb)))
  rw [← hF]
  clear hF
  obtain ⟨B1, hB1⟩ : ∃ B1, B1 = wq.heap.size := ⟨_, rfl⟩
  rw [← hB1] at HQL HB1 HS
  clear hB1
  go_upto_region 10 with (first
    | (go_at_call 15; ((with_reducible refine (windrowref06_Draw.calls 400 P T R P T R db de N _ HDR.out).mono ?_); rintro e wd ⟨rfl, hb⟩; replace HS := Lib.hid (HS.out.below hb); clear c0 c1 c2; replace KQ := Lib.hid (blk_below KQ.out hb); (obtain ⟨c0, -⟩ := Hp.blk_cell KQ.out 0 rfl); (obtain ⟨c1, -⟩ := Hp.blk_cell KQ.out 1 rfl); (obtain ⟨c2, -⟩ := Hp.blk_cell KQ.out 2 rfl); replace HB := Lib.hid (HB.out.trans (hb.mono HB.out.size)); clear hb)))
  have KD : Hid ((wd.alloc (.cells #[.int .i64 P, .int .i64 T, .int .i64 R, .int .i64 db, .int .i64 de, .int .i64 (N : Int)] 43)).heap[wd.heap.size]? = some (.cells #[.int .i64 P, .int .i64 T, .int .i64 R, .int .i64 db, .int .i64 de, .int .i64 (N : Int)] 43 (0, 0))) := Lib.hid (Hp.blk_new _ _)
  replace HS := Lib.hid (HS.out.alloc (.cells #[.int .i64 P, .int .i64 T, .int .i64 R, .int .i64 db, .int .i64 de, .int .i64 (N : Int)] 43))
  replace KQ := Lib.hid (Hp.blk_alloc KQ.out (.cells #[.int .i64 P, .int .i64 T, .int .i64 R, .int .i64 db, .int .i64 de, .int .i64 (N : Int)] 43))
  replace HB := Lib.hid (HB.out.alloc HB.out.size (.cells #[.int .i64 P, .int .i64 T, .int .i64 R, .int .i64 db, .int .i64 de, .int .i64 (N : Int)] 43))
  obtain ⟨dx, hdx⟩ : ∃ dx, dx = wd.heap.size := ⟨_, rfl⟩
  rw [← hdx] at KD
  generalize wd.alloc (.cells #[.int .i64 P, .int .i64 T, .int .i64 R, .int .i64 db, .int .i64 de, .int .i64 (N : Int)] 43) = we at KD HS KQ HB ⊢
  simp only [← hdx]
  clear hdx
  clear c0 c1 c2
  (obtain ⟨c0, -⟩ := Hp.blk_cell KQ.out 0 rfl)
  (obtain ⟨c1, -⟩ := Hp.blk_cell KQ.out 1 rfl)
  (obtain ⟨c2, -⟩ := Hp.blk_cell KQ.out 2 rfl)
  (obtain ⟨d0, -⟩ := Hp.blk_cell KD.out 0 rfl)
  (obtain ⟨d1, -⟩ := Hp.blk_cell KD.out 1 rfl)
  (obtain ⟨d2, -⟩ := Hp.blk_cell KD.out 2 rfl)
  (obtain ⟨d3, -⟩ := Hp.blk_cell KD.out 3 rfl)
  (obtain ⟨d4, -⟩ := Hp.blk_cell KD.out 4 rfl)
  (obtain ⟨d5, -⟩ := Hp.blk_cell KD.out 5 rfl)
  go_upto_region 13 with (first
    | (go_at_call 32; ((with_reducible refine (windrowref06_Map_Head.calls P T R db de (N : Int) 0 _ _ (sm_head P T R db de N)).mono ?_); rintro e w9 ⟨rfl, hb⟩; clear d0 d1 d2 d3 d4 d5; replace KD := Lib.hid (blk_below KD.out hb); (obtain ⟨d0, -⟩ := Hp.blk_cell KD.out 0 rfl); (obtain ⟨d1, -⟩ := Hp.blk_cell KD.out 1 rfl); (obtain ⟨d2, -⟩ := Hp.blk_cell KD.out 2 rfl); (obtain ⟨d3, -⟩ := Hp.blk_cell KD.out 3 rfl); (obtain ⟨d4, -⟩ := Hp.blk_cell KD.out 4 rfl); (obtain ⟨d5, -⟩ := Hp.blk_cell KD.out 5 rfl); replace HS := Lib.hid (HS.out.below hb); clear c0 c1 c2; replace KQ := Lib.hid (blk_below KQ.out hb); (obtain ⟨c0, -⟩ := Hp.blk_cell KQ.out 0 rfl); (obtain ⟨c1, -⟩ := Hp.blk_cell KQ.out 1 rfl); (obtain ⟨c2, -⟩ := Hp.blk_cell KQ.out 2 rfl); replace HB := Lib.hid (HB.out.trans (hb.mono HB.out.size)); clear hb))
    | (go_at_call 33; ((with_reducible refine (windrowref06_Map_Tail.calls P T R db de (N : Int) 0 _ _ (sm_tail P T R db de N)).mono ?_); rintro e w9 ⟨rfl, hb⟩; clear d0 d1 d2 d3 d4 d5; replace KD := Lib.hid (blk_below KD.out hb); (obtain ⟨d0, -⟩ := Hp.blk_cell KD.out 0 rfl); (obtain ⟨d1, -⟩ := Hp.blk_cell KD.out 1 rfl); (obtain ⟨d2, -⟩ := Hp.blk_cell KD.out 2 rfl); (obtain ⟨d3, -⟩ := Hp.blk_cell KD.out 3 rfl); (obtain ⟨d4, -⟩ := Hp.blk_cell KD.out 4 rfl); (obtain ⟨d5, -⟩ := Hp.blk_cell KD.out 5 rfl); replace HS := Lib.hid (HS.out.below hb); clear c0 c1 c2; replace KQ := Lib.hid (blk_below KQ.out hb); (obtain ⟨c0, -⟩ := Hp.blk_cell KQ.out 0 rfl); (obtain ⟨c1, -⟩ := Hp.blk_cell KQ.out 1 rfl); (obtain ⟨c2, -⟩ := Hp.blk_cell KQ.out 2 rfl); replace HB := Lib.hid (HB.out.trans (hb.mono HB.out.size)); clear hb))
    | (go_at_call 31; ((have hm := HS.out.poke 19 F (decide_eq_true (by have := HN.out; simp; omega))); (with_reducible refine hm.mono ?_); clear hm; rintro e w9 ⟨rfl, hD⟩; clear c0 c1 c2 d0 d1 d2 d3 d4 d5; replace KQ := Lib.hid (hD.fr.blk KQ.out (not_touch KQ.out (blk_ne KQ.out (sys_cel HS.out) (by decide)) (by decide))); replace KD := Lib.hid (hD.fr.blk KD.out (not_touch KD.out (blk_ne KD.out (sys_cel HS.out) (by decide)) (by decide))); replace HB := Lib.hid (HB.out.trans (hD.bel.mono HB1.out)); replace HS := Lib.hid hD.sys; clear hD; (obtain ⟨c0, -⟩ := Hp.blk_cell KQ.out 0 rfl); (obtain ⟨c1, -⟩ := Hp.blk_cell KQ.out 1 rfl); (obtain ⟨c2, -⟩ := Hp.blk_cell KQ.out 2 rfl); (obtain ⟨d0, -⟩ := Hp.blk_cell KD.out 0 rfl); (obtain ⟨d1, -⟩ := Hp.blk_cell KD.out 1 rfl); (obtain ⟨d2, -⟩ := Hp.blk_cell KD.out 2 rfl); (obtain ⟨d3, -⟩ := Hp.blk_cell KD.out 3 rfl); (obtain ⟨d4, -⟩ := Hp.blk_cell KD.out 4 rfl); (obtain ⟨d5, -⟩ := Hp.blk_cell KD.out 5 rfl)))
    | (go_at_call 31; ((have hm := HS.out.poke 20 F (decide_eq_true (by have := HN.out; simp [AS.poked]; omega))); (with_reducible refine hm.mono ?_); clear hm; rintro e w9 ⟨rfl, hD⟩; clear c0 c1 c2 d0 d1 d2 d3 d4 d5; replace KQ := Lib.hid (hD.fr.blk KQ.out (not_touch KQ.out (blk_ne KQ.out (sys_cel HS.out) (by decide)) (by decide))); replace KD := Lib.hid (hD.fr.blk KD.out (not_touch KD.out (blk_ne KD.out (sys_cel HS.out) (by decide)) (by decide))); replace HB := Lib.hid (HB.out.trans (hD.bel.mono HB1.out)); replace HS := Lib.hid hD.sys; clear hD; (obtain ⟨c0, -⟩ := Hp.blk_cell KQ.out 0 rfl); (obtain ⟨c1, -⟩ := Hp.blk_cell KQ.out 1 rfl); (obtain ⟨c2, -⟩ := Hp.blk_cell KQ.out 2 rfl); (obtain ⟨d0, -⟩ := Hp.blk_cell KD.out 0 rfl); (obtain ⟨d1, -⟩ := Hp.blk_cell KD.out 1 rfl); (obtain ⟨d2, -⟩ := Hp.blk_cell KD.out 2 rfl); (obtain ⟨d3, -⟩ := Hp.blk_cell KD.out 3 rfl); (obtain ⟨d4, -⟩ := Hp.blk_cell KD.out 4 rfl); (obtain ⟨d5, -⟩ := Hp.blk_cell KD.out 5 rfl))))
  obtain ⟨g, hg⟩ : ∃ g : Int → Int, g = fun n => n - F + 1 := ⟨_, rfl⟩
  have HG : Hid (∀ n, g n = n - F + 1) := Lib.hid (fun n => by rw [hg])
  have hx : IsQ B1 (w9.alloc (.cells #[.pointer (some ⟨p, 0, none⟩), .pointer (some ⟨c, 0, none⟩), .pointer none, .pointer none, .int .u64 1, .slice none 0 0, .slice none 0 0, .bool true] 50)) w9.heap.size p c cc none none 1 [] [] true (.slice none 0 0) (.slice none 0 0) :=
    ⟨Hp.blk_new _ _, World.ownsRow_nil _ _ _ _, World.ownsRow_nil _ _ _ _, by simp [Value.ownBlock], by simp [Value.ownBlock], HS.out.base.1, fun e => by have := HS.out.lt.2; omega⟩
  have hqx : QX B1 (w9.alloc (.cells #[.pointer (some ⟨p, 0, none⟩), .pointer (some ⟨c, 0, none⟩), .pointer none, .pointer none, .int .u64 1, .slice none 0 0, .slice none 0 0, .bool true] 50)) a cc w9.heap.size p c 1 0 0 15 P T R g F F F F none none 0 _ (fun _ => 0) _ none none (.slice none 0 0) (.slice none 0 0) :=
    ⟨HS.out.alloc (.cells #[.pointer (some ⟨p, 0, none⟩), .pointer (some ⟨c, 0, none⟩), .pointer none, .pointer none, .int .u64 1, .slice none 0 0, .slice none 0 0, .bool true] 50), by rw [HG.out, show F - F + 1 = 1 by omega, show (F - F).toNat = 0 by omega]; exact hx, vw_start (by have := HOK.out; unfold smOk at this; omega) (by have := HOK.out; unfold smOk at this; have := HN.out; omega), Nat.zero_le _, ⟨⟨false, rfl⟩, false, rfl⟩, .inl ⟨rfl, rfl⟩, .inl ⟨rfl, rfl⟩, HOK.out.ok,
      ⟨Int.le_refl _, Int.le_refl _, by have := HOK.out; unfold smOk at this; omega, Int.le_refl _, by omega, HF.out.1, Int.le_refl _, by have := HF.out; omega, by have := HOK.out; unfold smOk at this; omega⟩, fun n h1 h2 => by omega, .inl rfl, .inl rfl, fun n h1 h2 => by rw [HG.out, HG.out]; have := HF.out; omega⟩
  have HQ : Hid (QS B1 (w9.alloc (.cells #[.pointer (some ⟨p, 0, none⟩), .pointer (some ⟨c, 0, none⟩), .pointer none, .pointer none, .int .u64 1, .slice none 0 0, .slice none 0 0, .bool true] 50)) a cc w9.heap.size p c 1 0 0 15 P T R g F F F F none none 0) := Lib.hid ⟨_, _, _, _, _, _, _, hqx⟩
  replace HB := Lib.hid (HB.out.alloc HB.out.size (.cells #[.pointer (some ⟨p, 0, none⟩), .pointer (some ⟨c, 0, none⟩), .pointer none, .pointer none, .int .u64 1, .slice none 0 0, .slice none 0 0, .bool true] 50))
  replace KQ := Lib.hid (Hp.blk_alloc KQ.out (.cells #[.pointer (some ⟨p, 0, none⟩), .pointer (some ⟨c, 0, none⟩), .pointer none, .pointer none, .int .u64 1, .slice none 0 0, .slice none 0 0, .bool true] 50))
  clear hx hqx hg HS KD c0 c1 c2 d0 d1 d2 d3 d4 d5 HCE HDR
  obtain ⟨x, hx⟩ : ∃ x, x = w9.heap.size := ⟨_, rfl⟩
  rw [← hx] at HQ
  generalize w9.alloc (.cells #[.pointer (some ⟨p, 0, none⟩), .pointer (some ⟨c, 0, none⟩), .pointer none, .pointer none, .int .u64 1, .slice none 0 0, .slice none 0 0, .bool true] 50) = wx at HQ HB KQ ⊢
  simp only [← hx]
  clear hx
  have hR5 : 1 ≤ R ∧ R ≤ 5 := by have := HOK.out; unfold smOk at this; omega
  have hmax : l.length ≤ 9223372036854775807 := HR.out.2.1
  go_wp2_with (fail)
  go_loopw [15, 16, 17] (fun v15 v16 v17 wr => ∃ (k : Nat) (h t : Int) (ym : Option PS) (yo : Option OS), k ≤ 300 ∧ k ≤ l.length ∧ v15 = .int .i64 k ∧ Hid (QS B1 wr a cc x p c 1 0 0 15 P T R g F F h t ym yo k) ∧ Hid (Below w.heap.size w wr) ∧ Hid (wr.heap[qx]? = some (.cells #[.int .i64 P, .int .i64 T, .int .i64 R] 23 (0, 0)))) (fun v15 _ _ _ => 300 - (intOf v15).toNat)
  case atStart => exact ⟨0, _, _, _, _, by omega, Nat.zero_le _, rfl, HQ, HB, KQ⟩
  case round =>
    obtain ⟨k, h, t, ym, yo, hk3, hkl, rfl, HQr, HBr, KQr⟩ := hrel
    clear HQ HB KQ
    go_upto_region 14 with (fail)
    go_cut [72] (fun v72 wz => wz = wr ∧ v72 = .bool (decide (k < l.length ∧ k < 300)))
    case first =>
      by_cases h1 : k < l.length
      · by_cases h2 : (k : Int) < 300
        · go_wp2_with (fail)
          go_meet
          case rel => exact ⟨rfl, congrArg Value.bool (by first | (rw [decide_eq_true (p := k < l.length ∧ k < 300) ⟨h1, by omega⟩]; done) | (rw [decide_eq_true (p := k < l.length ∧ k < 300) ⟨h1, by omega⟩]; exact decide_eq_true (by omega)))⟩
        · go_wp2_with (fail)
          go_meet
          case rel => exact ⟨rfl, congrArg Value.bool (by first | (rw [decide_eq_false (p := k < l.length ∧ k < 300) (by omega)]; done) | (rw [decide_eq_false (p := k < l.length ∧ k < 300) (by omega)]; exact decide_eq_false (by omega)))⟩
      · go_wp2_with (fail)
        go_meet
        case rel => exact ⟨rfl, congrArg Value.bool (by first | (rw [decide_eq_false (p := k < l.length ∧ k < 300) (by omega)]; done) | (rw [decide_eq_false (p := k < l.length ∧ k < 300) (by omega)]; exact decide_eq_false (by omega)))⟩
    case rest =>
      obtain ⟨rfl, rfl⟩ := hcut
      by_cases hend : k < l.length ∧ k < 300
      · simp only [decide_eq_true hend]
        obtain ⟨h1, h2⟩ := hend
        obtain ⟨ad, hA, hcell⟩ := row_bools HR.out (show 0 < l.length by omega)
        have hck := (HBr.out.cell (p := ad.add k) (World.block_lt_of_cell? w _ (hcell k h1))).trans (hcell k h1)
        clear hcell
        subst hA
        (obtain ⟨c0, -⟩ := Hp.blk_cell KQr.out 0 rfl)
        (obtain ⟨c1, -⟩ := Hp.blk_cell KQr.out 1 rfl)
        (obtain ⟨c2, -⟩ := Hp.blk_cell KQr.out 2 rfl)
        obtain ⟨b, hb⟩ : ∃ b, b = l.getD k false := ⟨_, rfl⟩
        rw [← hb] at hck
        clear hb
        cases b with
        | true =>
          go_upto_region 19 with (first
            | (go_at_call 19; ((have hm := HQr.out.puts (by omega)); (with_reducible refine hm.mono ?_); clear hm; rintro e w9 ⟨rfl, ⟨t2, ym2, hq2, -⟩, hb⟩; (have HQ2 := Lib.hid hq2); clear c0 c1 c2 hck; replace KQr := Lib.hid ((hb.block qx HQL.out).trans KQr.out); replace HBr := Lib.hid (HBr.out.trans (hb.mono HB1.out)); clear hq2 hb HQr; (obtain ⟨c0, -⟩ := Hp.blk_cell KQr.out 0 rfl); (obtain ⟨c1, -⟩ := Hp.blk_cell KQr.out 1 rfl); (obtain ⟨c2, -⟩ := Hp.blk_cell KQr.out 2 rfl))))
          obtain ⟨s, f, ps, pu, po, vp, vt, q⟩ := HQ2.out
          have HX := Lib.hid q
          have hrng := q.rng
          clear q HQ2
          go_upto_region 20 with (first
            | (go_at_call 13; ((with_reducible refine (windrowlaw07_plan.calls P T R P T R _ rfl).mono ?_); rintro e w9 ⟨rfl, hb⟩; clear c0 c1 c2; replace HX := Lib.hid (HX.out.below hb); replace KQr := Lib.hid (blk_below KQr.out hb); replace HBr := Lib.hid (HBr.out.trans (hb.mono HBr.out.size)); (obtain ⟨c0, -⟩ := Hp.blk_cell KQr.out 0 rfl); (obtain ⟨c1, -⟩ := Hp.blk_cell KQr.out 1 rfl); (obtain ⟨c2, -⟩ := Hp.blk_cell KQr.out 2 rfl); clear hb))
            | (go_at_call 20; ((have hm := waiting_ok HX.out.sys HX.out.ok HX.out.vw (t2 - h).toNat (by omega) (by omega) (by have := HF.out; omega) (by have := HF.out; push_cast at hrng; omega)); (with_reducible refine hm.mono ?_); clear hm; rintro e w8 ⟨v8, rfl, hown, hb⟩; (have HOW := Lib.hid hown); clear c0 c1 c2; replace HX := Lib.hid (HX.out.below hb); replace KQr := Lib.hid (blk_below KQr.out hb); replace HBr := Lib.hid (HBr.out.trans (hb.mono HBr.out.size)); (obtain ⟨c0, -⟩ := Hp.blk_cell KQr.out 0 rfl); (obtain ⟨c1, -⟩ := Hp.blk_cell KQr.out 1 rfl); (obtain ⟨c2, -⟩ := Hp.blk_cell KQr.out 2 rfl); clear hb hown)))
          obtain ⟨n1, hn1⟩ : ∃ n1 : Nat, n1 = (t2 - F).toNat := ⟨_, rfl⟩
          obtain ⟨n2, hn2⟩ : ∃ n2 : Nat, n2 = (h - F).toNat := ⟨_, rfl⟩
          obtain ⟨n3, hn3⟩ : ∃ n3 : Nat, n3 = (t2 - h).toNat := ⟨_, rfl⟩
          obtain ⟨A1, k1, rfl⟩ := row_slice (n1 := n1) HX.out.que.rp (by rw [run_len]; exact hn1.symm)
          obtain ⟨A2, k2, rfl⟩ := row_slice (n1 := n2) HX.out.que.rt (by rw [run_len]; exact hn2.symm)
          obtain ⟨A3, k3, rfl⟩ := row_slice (n1 := n3) HOW.out (by rw [waitL_len]; exact hn3.symm)
          have hbd : (n3 : Int) ≤ R ∧ n2 ≤ n1 ∧ (n1 : Int) ≤ n2 + R ∧ n1 ≤ 400 := by push_cast at hrng; omega
          have hRb : R ≤ 5 := hR5.2
          clear c0 c1 c2 HOW hn1 hn2 hn3 hrng
          have HX2 := Lib.hid (HX.out.below (w' := w8.drew) ⟨rfl, rfl, rfl, Nat.le_refl _, fun _ _ => rfl⟩)
          have HB2 := Lib.hid HBr.out.drew
          have KQ2 : Hid (w8.drew.heap[qx]? = some (.cells #[.int .i64 P, .int .i64 T, .int .i64 R] 23 (0, 0))) := Lib.hid KQr.out
          clear HX HBr KQr
          try simp only [List.append_eq, List.append, List.cons_append, List.nil_append]
          refine Rg.Upto.start (fun w' => w'.heap[x]? = some (.cells #[.pointer (some ⟨p, 0, none⟩), .pointer (some ⟨c, 0, none⟩), pv pu, pv po, .int .u64 (g t2), .slice A1 n1 k1, .slice A2 n2 k2, .bool true] 50 (0, 0)) ∧ w'.heap[qx]? = some (.cells #[.int .i64 P, .int .i64 T, .int .i64 R] 23 (0, 0))) 1000 (by kernel_rfl) ⟨HX2.out.que.blk, KQ2.out⟩ (fun HSC => ?_)
          refine Rg.Upto.takeA (i := 0) (v := ?_) rfl (by kernel_rfl) (by kernel_rfl) (by kernel_rfl) (of_decide_eq_true (by kernel_rfl)) (fun _ _ _ h => h) (by rfl) (fun w5 hS5 => ?_) HSC ?_
          rotate_left
          · obtain ⟨h1, h2⟩ := hS5
            clear h1 h2
            go_simp
            try rfl
          try simp only [Act.put, List.setIfInBounds_toArray, List.set_cons_zero, List.set_cons_succ]
          refine Rg.Upto.takeA (i := 1) (v := ?_) rfl (by kernel_rfl) (by kernel_rfl) (by kernel_rfl) (of_decide_eq_true (by kernel_rfl)) (fun _ _ _ h => h) (by rfl) (fun w5 hS5 => ?_) HSC ?_
          rotate_left
          · obtain ⟨h1, h2⟩ := hS5
            clear h1 h2
            go_simp
            try rfl
          try simp only [Act.put, List.setIfInBounds_toArray, List.set_cons_zero, List.set_cons_succ]
          refine Rg.Upto.takeA (i := 2) (v := ?_) rfl (by kernel_rfl) (by kernel_rfl) (by kernel_rfl) (of_decide_eq_true (by kernel_rfl)) (fun _ _ _ h => h) (by rfl) (fun w5 hS5 => ?_) HSC ?_
          rotate_left
          · obtain ⟨h1, h2⟩ := hS5
            clear h1 h2
            go_simp
            try rfl
          try simp only [Act.put, List.setIfInBounds_toArray, List.set_cons_zero, List.set_cons_succ]
          refine Rg.Upto.takeA (i := 3) (v := ?_) rfl (by kernel_rfl) (by kernel_rfl) (by kernel_rfl) (of_decide_eq_true (by kernel_rfl)) (fun _ _ _ h => h) (by rfl) (fun w5 hS5 => ?_) HSC ?_
          rotate_left
          · obtain ⟨h1, h2⟩ := hS5
            clear h1 h2
            go_simp
            try rfl
          try simp only [Act.put, List.setIfInBounds_toArray, List.set_cons_zero, List.set_cons_succ]
          refine Rg.Upto.takeA (i := 4) (v := ?_) rfl (by kernel_rfl) (by kernel_rfl) (by kernel_rfl) (of_decide_eq_true (by kernel_rfl)) (fun _ _ _ h => h) (by rfl) (fun w5 hS5 => ?_) HSC ?_
          rotate_left
          · obtain ⟨h1, h2⟩ := hS5
            clear h1 h2
            go_simp
            try rfl
          try simp only [Act.put, List.setIfInBounds_toArray, List.set_cons_zero, List.set_cons_succ]
          refine Rg.Upto.takeA (i := 5) (v := ?_) rfl (by kernel_rfl) (by kernel_rfl) (by kernel_rfl) (of_decide_eq_true (by kernel_rfl)) (fun _ _ _ h => h) (by rfl) (fun w5 hS5 => ?_) HSC ?_
          rotate_left
          · obtain ⟨h1, h2⟩ := hS5
            clear h1 h2
            go_simp
            try rfl
          try simp only [Act.put, List.setIfInBounds_toArray, List.set_cons_zero, List.set_cons_succ]
          refine Rg.Upto.takeA (i := 6) (v := ?_) rfl (by kernel_rfl) (by kernel_rfl) (by kernel_rfl) (of_decide_eq_true (by kernel_rfl)) (fun _ _ _ h => h) (by rfl) (fun w5 hS5 => ?_) HSC ?_
          rotate_left
          · obtain ⟨h1, h2⟩ := hS5
            have x2 := (Hp.blk_cell h2 2 rfl).1
            clear h1 h2
            go_simp
            try rfl
          try simp only [Act.put, List.setIfInBounds_toArray, List.set_cons_zero, List.set_cons_succ]
          refine Rg.Upto.takeA (i := 7) (v := ?_) rfl (by kernel_rfl) (by kernel_rfl) (by kernel_rfl) (of_decide_eq_true (by kernel_rfl)) (fun _ _ _ h => h) (by rfl) (fun w5 hS5 => ?_) HSC ?_
          rotate_left
          · obtain ⟨h1, h2⟩ := hS5
            clear h1 h2
            go_simp
            try rfl
          try simp only [Act.put, List.setIfInBounds_toArray, List.set_cons_zero, List.set_cons_succ]
          try simp only [decide_eq_false (p := R < (n3 : Int)) (by omega)]
          refine Rg.Upto.takeA (i := 8) (v := ?_) rfl (by kernel_rfl) (by kernel_rfl) (by kernel_rfl) (of_decide_eq_true (by kernel_rfl)) (fun _ _ _ h => h) (by rfl) (fun w5 hS5 => ?_) HSC ?_
          rotate_left
          · obtain ⟨h1, h2⟩ := hS5
            clear h1 h2
            go_simp
            try rfl
          try simp only [Act.put, List.setIfInBounds_toArray, List.set_cons_zero, List.set_cons_succ]
          refine Rg.Upto.takeA (i := 9) (v := ?_) rfl (by kernel_rfl) (by kernel_rfl) (by kernel_rfl) (of_decide_eq_true (by kernel_rfl)) (fun _ _ _ h => h) (by rfl) (fun w5 hS5 => ?_) HSC ?_
          rotate_left
          · obtain ⟨h1, h2⟩ := hS5
            clear h1 h2
            go_simp
            try rfl
          try simp only [Act.put, List.setIfInBounds_toArray, List.set_cons_zero, List.set_cons_succ]
          refine Rg.Upto.takeA (i := 10) (v := ?_) rfl (by kernel_rfl) (by kernel_rfl) (by kernel_rfl) (of_decide_eq_true (by kernel_rfl)) (fun _ _ _ h => h) (by rfl) (fun w5 hS5 => ?_) HSC ?_
          rotate_left
          · obtain ⟨h1, h2⟩ := hS5
            clear h1 h2
            go_simp
            try rfl
          try simp only [Act.put, List.setIfInBounds_toArray, List.set_cons_zero, List.set_cons_succ]
          refine Rg.Upto.takeA (i := 11) (v := ?_) rfl (by kernel_rfl) (by kernel_rfl) (by kernel_rfl) (of_decide_eq_true (by kernel_rfl)) (fun _ _ _ h => h) (by rfl) (fun w5 hS5 => ?_) HSC ?_
          rotate_left
          · obtain ⟨h1, h2⟩ := hS5
            clear h1 h2
            go_simp
            try rfl
          try simp only [Act.put, List.setIfInBounds_toArray, List.set_cons_zero, List.set_cons_succ]
          refine Rg.Upto.takeA (i := 12) (v := ?_) rfl (by kernel_rfl) (by kernel_rfl) (by kernel_rfl) (of_decide_eq_true (by kernel_rfl)) (fun _ _ _ h => h) (by rfl) (fun w5 hS5 => ?_) HSC ?_
          rotate_left
          · obtain ⟨h1, h2⟩ := hS5
            clear h1 h2
            go_simp
            try rfl
          try simp only [Act.put, List.setIfInBounds_toArray, List.set_cons_zero, List.set_cons_succ]
          refine Rg.Upto.takeA (i := 13) (v := ?_) rfl (by kernel_rfl) (by kernel_rfl) (by kernel_rfl) (of_decide_eq_true (by kernel_rfl)) (fun _ _ _ h => h) (by rfl) (fun w5 hS5 => ?_) HSC ?_
          rotate_left
          · obtain ⟨h1, h2⟩ := hS5
            have x6 := (Hp.blk_cell h1 6 rfl).1
            clear h1 h2
            go_simp
            try rfl
          try simp only [Act.put, List.setIfInBounds_toArray, List.set_cons_zero, List.set_cons_succ]
          refine Rg.Upto.takeA (i := 14) (v := ?_) rfl (by kernel_rfl) (by kernel_rfl) (by kernel_rfl) (of_decide_eq_true (by kernel_rfl)) (fun _ _ _ h => h) (by rfl) (fun w5 hS5 => ?_) HSC ?_
          rotate_left
          · obtain ⟨h1, h2⟩ := hS5
            clear h1 h2
            go_simp
            try rfl
          try simp only [Act.put, List.setIfInBounds_toArray, List.set_cons_zero, List.set_cons_succ]
          refine Rg.Upto.takeA (i := 15) (v := ?_) rfl (by kernel_rfl) (by kernel_rfl) (by kernel_rfl) (of_decide_eq_true (by kernel_rfl)) (fun _ _ _ h => h) (by rfl) (fun w5 hS5 => ?_) HSC ?_
          rotate_left
          · obtain ⟨h1, h2⟩ := hS5
            clear h1 h2
            go_simp
            try rfl
          try simp only [Act.put, List.setIfInBounds_toArray, List.set_cons_zero, List.set_cons_succ]
          refine Rg.Upto.takeA (i := 16) (v := ?_) rfl (by kernel_rfl) (by kernel_rfl) (by kernel_rfl) (of_decide_eq_true (by kernel_rfl)) (fun _ _ _ h => h) (by rfl) (fun w5 hS5 => ?_) HSC ?_
          rotate_left
          · obtain ⟨h1, h2⟩ := hS5
            clear h1 h2
            go_simp
            try rfl
          try simp only [Act.put, List.setIfInBounds_toArray, List.set_cons_zero, List.set_cons_succ]
          refine Rg.Upto.takeA (i := 17) (v := ?_) rfl (by kernel_rfl) (by kernel_rfl) (by kernel_rfl) (of_decide_eq_true (by kernel_rfl)) (fun _ _ _ h => h) (by rfl) (fun w5 hS5 => ?_) HSC ?_
          rotate_left
          · obtain ⟨h1, h2⟩ := hS5
            clear h1 h2
            go_simp
            try rfl
          try simp only [Act.put, List.setIfInBounds_toArray, List.set_cons_zero, List.set_cons_succ]
          refine Rg.Upto.takeA (i := 18) (v := ?_) rfl (by kernel_rfl) (by kernel_rfl) (by kernel_rfl) (of_decide_eq_true (by kernel_rfl)) (fun _ _ _ h => h) (by rfl) (fun w5 hS5 => ?_) HSC ?_
          rotate_left
          · obtain ⟨h1, h2⟩ := hS5
            have x5 := (Hp.blk_cell h1 5 rfl).1
            clear h1 h2
            go_simp
            try rfl
          try simp only [Act.put, List.setIfInBounds_toArray, List.set_cons_zero, List.set_cons_succ]
          refine Rg.Upto.takeA (i := 19) (v := ?_) rfl (by kernel_rfl) (by kernel_rfl) (by kernel_rfl) (of_decide_eq_true (by kernel_rfl)) (fun _ _ _ h => h) (by rfl) (fun w5 hS5 => ?_) HSC ?_
          rotate_left
          · obtain ⟨h1, h2⟩ := hS5
            clear h1 h2
            go_simp
            try rfl
          try simp only [Act.put, List.setIfInBounds_toArray, List.set_cons_zero, List.set_cons_succ]
          refine Rg.Upto.takeA (i := 20) (v := ?_) rfl (by kernel_rfl) (by kernel_rfl) (by kernel_rfl) (of_decide_eq_true (by kernel_rfl)) (fun _ _ _ h => h) (by rfl) (fun w5 hS5 => ?_) HSC ?_
          rotate_left
          · obtain ⟨h1, h2⟩ := hS5
            clear h1 h2
            go_simp
            try rfl
          try simp only [Act.put, List.setIfInBounds_toArray, List.set_cons_zero, List.set_cons_succ]
          try simp only [i64_small (x := (n1 : Int) + 1) (by omega) (by omega)]
          refine Rg.Upto.takeA (i := 21) (v := ?_) rfl (by kernel_rfl) (by kernel_rfl) (by kernel_rfl) (of_decide_eq_true (by kernel_rfl)) (fun _ _ _ h => h) (by rfl) (fun w5 hS5 => ?_) HSC ?_
          rotate_left
          · obtain ⟨h1, h2⟩ := hS5
            clear h1 h2
            go_simp
            try rfl
          try simp only [Act.put, List.setIfInBounds_toArray, List.set_cons_zero, List.set_cons_succ]
          try simp only [decide_eq_false (p := (n1 : Int) + 1 < (n2 : Int)) (by omega)]
          refine Rg.Upto.takeA (i := 22) (v := ?_) rfl (by kernel_rfl) (by kernel_rfl) (by kernel_rfl) (of_decide_eq_true (by kernel_rfl)) (fun _ _ _ h => h) (by rfl) (fun w5 hS5 => ?_) HSC ?_
          rotate_left
          · obtain ⟨h1, h2⟩ := hS5
            clear h1 h2
            go_simp
            try rfl
          try simp only [Act.put, List.setIfInBounds_toArray, List.set_cons_zero, List.set_cons_succ]
          refine Rg.Upto.takeA (i := 23) (v := ?_) rfl (by kernel_rfl) (by kernel_rfl) (by kernel_rfl) (of_decide_eq_true (by kernel_rfl)) (fun _ _ _ h => h) (by rfl) (fun w5 hS5 => ?_) HSC ?_
          rotate_left
          · obtain ⟨h1, h2⟩ := hS5
            clear h1 h2
            go_simp
            try rfl
          try simp only [Act.put, List.setIfInBounds_toArray, List.set_cons_zero, List.set_cons_succ]
          refine Rg.Upto.takeA (i := 24) (v := ?_) rfl (by kernel_rfl) (by kernel_rfl) (by kernel_rfl) (of_decide_eq_true (by kernel_rfl)) (fun _ _ _ h => h) (by rfl) (fun w5 hS5 => ?_) HSC ?_
          rotate_left
          · obtain ⟨h1, h2⟩ := hS5
            clear h1 h2
            go_simp
            try rfl
          try simp only [Act.put, List.setIfInBounds_toArray, List.set_cons_zero, List.set_cons_succ]
          refine Rg.Upto.takeA (i := 25) (v := ?_) rfl (by kernel_rfl) (by kernel_rfl) (by kernel_rfl) (of_decide_eq_true (by kernel_rfl)) (fun _ _ _ h => h) (by rfl) (fun w5 hS5 => ?_) HSC ?_
          rotate_left
          · obtain ⟨h1, h2⟩ := hS5
            clear h1 h2
            go_simp
            try rfl
          try simp only [Act.put, List.setIfInBounds_toArray, List.set_cons_zero, List.set_cons_succ]
          refine Rg.Upto.takeA (i := 26) (v := ?_) rfl (by kernel_rfl) (by kernel_rfl) (by kernel_rfl) (of_decide_eq_true (by kernel_rfl)) (fun _ _ _ h => h) (by rfl) (fun w5 hS5 => ?_) HSC ?_
          rotate_left
          · obtain ⟨h1, h2⟩ := hS5
            clear h1 h2
            go_simp
            try rfl
          try simp only [Act.put, List.setIfInBounds_toArray, List.set_cons_zero, List.set_cons_succ]
          refine Rg.Upto.takeA (i := 27) (v := ?_) rfl (by kernel_rfl) (by kernel_rfl) (by kernel_rfl) (of_decide_eq_true (by kernel_rfl)) (fun _ _ _ h => h) (by rfl) (fun w5 hS5 => ?_) HSC ?_
          rotate_left
          · obtain ⟨h1, h2⟩ := hS5
            have x5 := (Hp.blk_cell h1 5 rfl).1
            clear h1 h2
            go_simp
            try rfl
          try simp only [Act.put, List.setIfInBounds_toArray, List.set_cons_zero, List.set_cons_succ]
          refine Rg.Upto.takeA (i := 28) (v := ?_) rfl (by kernel_rfl) (by kernel_rfl) (by kernel_rfl) (of_decide_eq_true (by kernel_rfl)) (fun _ _ _ h => h) (by rfl) (fun w5 hS5 => ?_) HSC ?_
          rotate_left
          · obtain ⟨h1, h2⟩ := hS5
            clear h1 h2
            go_simp
            try rfl
          try simp only [Act.put, List.setIfInBounds_toArray, List.set_cons_zero, List.set_cons_succ]
          refine Rg.Upto.takeA (i := 29) (v := ?_) rfl (by kernel_rfl) (by kernel_rfl) (by kernel_rfl) (of_decide_eq_true (by kernel_rfl)) (fun _ _ _ h => h) (by rfl) (fun w5 hS5 => ?_) HSC ?_
          rotate_left
          · obtain ⟨h1, h2⟩ := hS5
            clear h1 h2
            go_simp
            try rfl
          try simp only [Act.put, List.setIfInBounds_toArray, List.set_cons_zero, List.set_cons_succ]
          refine Rg.Upto.takeA (i := 30) (v := ?_) rfl (by kernel_rfl) (by kernel_rfl) (by kernel_rfl) (of_decide_eq_true (by kernel_rfl)) (fun _ _ _ h => h) (by rfl) (fun w5 hS5 => ?_) HSC ?_
          rotate_left
          · obtain ⟨h1, h2⟩ := hS5
            clear h1 h2
            go_simp
            try rfl
          try simp only [Act.put, List.setIfInBounds_toArray, List.set_cons_zero, List.set_cons_succ]
          refine Rg.Upto.takeA (i := 31) (v := ?_) rfl (by kernel_rfl) (by kernel_rfl) (by kernel_rfl) (of_decide_eq_true (by kernel_rfl)) (fun _ _ _ h => h) (by rfl) (fun w5 hS5 => ?_) HSC ?_
          rotate_left
          · obtain ⟨h1, h2⟩ := hS5
            clear h1 h2
            go_simp
            try rfl
          try simp only [Act.put, List.setIfInBounds_toArray, List.set_cons_zero, List.set_cons_succ]
          refine Rg.Upto.takeA (i := 32) (v := ?_) rfl (by kernel_rfl) (by kernel_rfl) (by kernel_rfl) (of_decide_eq_true (by kernel_rfl)) (fun _ _ _ h => h) (by rfl) (fun w5 hS5 => ?_) HSC ?_
          rotate_left
          · obtain ⟨h1, h2⟩ := hS5
            have x6 := (Hp.blk_cell h1 6 rfl).1
            clear h1 h2
            go_simp
            try rfl
          try simp only [Act.put, List.setIfInBounds_toArray, List.set_cons_zero, List.set_cons_succ]
          refine Rg.Upto.takeA (i := 33) (v := ?_) rfl (by kernel_rfl) (by kernel_rfl) (by kernel_rfl) (of_decide_eq_true (by kernel_rfl)) (fun _ _ _ h => h) (by rfl) (fun w5 hS5 => ?_) HSC ?_
          rotate_left
          · obtain ⟨h1, h2⟩ := hS5
            clear h1 h2
            go_simp
            try rfl
          try simp only [Act.put, List.setIfInBounds_toArray, List.set_cons_zero, List.set_cons_succ]
          refine Rg.Upto.takeA (i := 34) (v := ?_) rfl (by kernel_rfl) (by kernel_rfl) (by kernel_rfl) (of_decide_eq_true (by kernel_rfl)) (fun _ _ _ h => h) (by rfl) (fun w5 hS5 => ?_) HSC ?_
          rotate_left
          · obtain ⟨h1, h2⟩ := hS5
            clear h1 h2
            go_simp
            try rfl
          try simp only [Act.put, List.setIfInBounds_toArray, List.set_cons_zero, List.set_cons_succ]
          refine Rg.Upto.takeA (i := 35) (v := ?_) rfl (by kernel_rfl) (by kernel_rfl) (by kernel_rfl) (of_decide_eq_true (by kernel_rfl)) (fun _ _ _ h => h) (by rfl) (fun w5 hS5 => ?_) HSC ?_
          rotate_left
          · obtain ⟨h1, h2⟩ := hS5
            have x2 := (Hp.blk_cell h2 2 rfl).1
            clear h1 h2
            go_simp
            try rfl
          try simp only [Act.put, List.setIfInBounds_toArray, List.set_cons_zero, List.set_cons_succ]
          refine Rg.Upto.takeA (i := 36) (v := ?_) rfl (by kernel_rfl) (by kernel_rfl) (by kernel_rfl) (of_decide_eq_true (by kernel_rfl)) (fun _ _ _ h => h) (by rfl) (fun w5 hS5 => ?_) HSC ?_
          rotate_left
          · obtain ⟨h1, h2⟩ := hS5
            clear h1 h2
            go_simp
            try rfl
          try simp only [Act.put, List.setIfInBounds_toArray, List.set_cons_zero, List.set_cons_succ]
          try simp only [i64_small (x := (n2 : Int) + R) (by omega) (by omega)]
          refine Rg.Upto.takeA (i := 37) (v := ?_) rfl (by kernel_rfl) (by kernel_rfl) (by kernel_rfl) (of_decide_eq_true (by kernel_rfl)) (fun _ _ _ h => h) (by rfl) (fun w5 hS5 => ?_) HSC ?_
          rotate_left
          · obtain ⟨h1, h2⟩ := hS5
            clear h1 h2
            go_simp
            try rfl
          try simp only [Act.put, List.setIfInBounds_toArray, List.set_cons_zero, List.set_cons_succ]
          try simp only [i64_small (x := (n2 : Int) + R + 1) (by omega) (by omega)]
          refine Rg.Upto.takeA (i := 38) (v := ?_) rfl (by kernel_rfl) (by kernel_rfl) (by kernel_rfl) (of_decide_eq_true (by kernel_rfl)) (fun _ _ _ h => h) (by rfl) (fun w5 hS5 => ?_) HSC ?_
          rotate_left
          · obtain ⟨h1, h2⟩ := hS5
            clear h1 h2
            go_simp
            try rfl
          try simp only [Act.put, List.setIfInBounds_toArray, List.set_cons_zero, List.set_cons_succ]
          try simp only [decide_eq_false (p := (n2 : Int) + R + 1 < (n1 : Int)) (by omega)]
          refine Rg.Upto.takeA (i := 39) (v := ?_) rfl (by kernel_rfl) (by kernel_rfl) (by kernel_rfl) (of_decide_eq_true (by kernel_rfl)) (fun _ _ _ h => h) (by rfl) (fun w5 hS5 => ?_) HSC ?_
          rotate_left
          · obtain ⟨h1, h2⟩ := hS5
            clear h1 h2
            go_simp
            try rfl
          try simp only [Act.put, List.setIfInBounds_toArray, List.set_cons_zero, List.set_cons_succ]
          clear HSC
          refine Rg.Upto.done (by kernel_rfl) ?_
          go_wp2_with (fail)
          go_roundw
          case rel => exact ⟨k + 1, h, t2, ym2, yo, by omega, by omega, by go_num, Lib.hid ⟨_, _, _, _, _, _, _, HX2.out⟩, HB2, KQ2⟩
          case measure => simp [intOf]; omega
        | false =>
          go_upto_region 19 with (first
            | (go_at_call 18; ((have hm := HQr.out.takes (by omega)); (with_reducible refine hm.mono ?_); clear hm; rintro e w9 ⟨rfl, ⟨h2, yo2, hq2, -⟩, hb⟩; (have HQ2 := Lib.hid hq2); clear c0 c1 c2 hck; replace KQr := Lib.hid ((hb.block qx HQL.out).trans KQr.out); replace HBr := Lib.hid (HBr.out.trans (hb.mono HB1.out)); clear hq2 hb HQr; (obtain ⟨c0, -⟩ := Hp.blk_cell KQr.out 0 rfl); (obtain ⟨c1, -⟩ := Hp.blk_cell KQr.out 1 rfl); (obtain ⟨c2, -⟩ := Hp.blk_cell KQr.out 2 rfl))))
          obtain ⟨s, f, ps, pu, po, vp, vt, q⟩ := HQ2.out
          have HX := Lib.hid q
          have hrng := q.rng
          clear q HQ2
          go_upto_region 20 with (first
            | (go_at_call 13; ((with_reducible refine (windrowlaw07_plan.calls P T R P T R _ rfl).mono ?_); rintro e w9 ⟨rfl, hb⟩; clear c0 c1 c2; replace HX := Lib.hid (HX.out.below hb); replace KQr := Lib.hid (blk_below KQr.out hb); replace HBr := Lib.hid (HBr.out.trans (hb.mono HBr.out.size)); (obtain ⟨c0, -⟩ := Hp.blk_cell KQr.out 0 rfl); (obtain ⟨c1, -⟩ := Hp.blk_cell KQr.out 1 rfl); (obtain ⟨c2, -⟩ := Hp.blk_cell KQr.out 2 rfl); clear hb))
            | (go_at_call 20; ((have hm := waiting_ok HX.out.sys HX.out.ok HX.out.vw (t - h2).toNat (by omega) (by omega) (by have := HF.out; omega) (by have := HF.out; push_cast at hrng; omega)); (with_reducible refine hm.mono ?_); clear hm; rintro e w8 ⟨v8, rfl, hown, hb⟩; (have HOW := Lib.hid hown); clear c0 c1 c2; replace HX := Lib.hid (HX.out.below hb); replace KQr := Lib.hid (blk_below KQr.out hb); replace HBr := Lib.hid (HBr.out.trans (hb.mono HBr.out.size)); (obtain ⟨c0, -⟩ := Hp.blk_cell KQr.out 0 rfl); (obtain ⟨c1, -⟩ := Hp.blk_cell KQr.out 1 rfl); (obtain ⟨c2, -⟩ := Hp.blk_cell KQr.out 2 rfl); clear hb hown)))
          obtain ⟨n1, hn1⟩ : ∃ n1 : Nat, n1 = (t - F).toNat := ⟨_, rfl⟩
          obtain ⟨n2, hn2⟩ : ∃ n2 : Nat, n2 = (h2 - F).toNat := ⟨_, rfl⟩
          obtain ⟨n3, hn3⟩ : ∃ n3 : Nat, n3 = (t - h2).toNat := ⟨_, rfl⟩
          obtain ⟨A1, k1, rfl⟩ := row_slice (n1 := n1) HX.out.que.rp (by rw [run_len]; exact hn1.symm)
          obtain ⟨A2, k2, rfl⟩ := row_slice (n1 := n2) HX.out.que.rt (by rw [run_len]; exact hn2.symm)
          obtain ⟨A3, k3, rfl⟩ := row_slice (n1 := n3) HOW.out (by rw [waitL_len]; exact hn3.symm)
          have hbd : (n3 : Int) ≤ R ∧ n2 ≤ n1 ∧ (n1 : Int) ≤ n2 + R ∧ n1 ≤ 400 := by push_cast at hrng; omega
          have hRb : R ≤ 5 := hR5.2
          clear c0 c1 c2 HOW hn1 hn2 hn3 hrng
          have HX2 := Lib.hid (HX.out.below (w' := w8.drew) ⟨rfl, rfl, rfl, Nat.le_refl _, fun _ _ => rfl⟩)
          have HB2 := Lib.hid HBr.out.drew
          have KQ2 : Hid (w8.drew.heap[qx]? = some (.cells #[.int .i64 P, .int .i64 T, .int .i64 R] 23 (0, 0))) := Lib.hid KQr.out
          clear HX HBr KQr
          try simp only [List.append_eq, List.append, List.cons_append, List.nil_append]
          refine Rg.Upto.start (fun w' => w'.heap[x]? = some (.cells #[.pointer (some ⟨p, 0, none⟩), .pointer (some ⟨c, 0, none⟩), pv pu, pv po, .int .u64 (g t), .slice A1 n1 k1, .slice A2 n2 k2, .bool true] 50 (0, 0)) ∧ w'.heap[qx]? = some (.cells #[.int .i64 P, .int .i64 T, .int .i64 R] 23 (0, 0))) 1000 (by kernel_rfl) ⟨HX2.out.que.blk, KQ2.out⟩ (fun HSC => ?_)
          refine Rg.Upto.takeA (i := 0) (v := ?_) rfl (by kernel_rfl) (by kernel_rfl) (by kernel_rfl) (of_decide_eq_true (by kernel_rfl)) (fun _ _ _ h => h) (by rfl) (fun w5 hS5 => ?_) HSC ?_
          rotate_left
          · obtain ⟨h1, h2⟩ := hS5
            clear h1 h2
            go_simp
            try rfl
          try simp only [Act.put, List.setIfInBounds_toArray, List.set_cons_zero, List.set_cons_succ]
          refine Rg.Upto.takeA (i := 1) (v := ?_) rfl (by kernel_rfl) (by kernel_rfl) (by kernel_rfl) (of_decide_eq_true (by kernel_rfl)) (fun _ _ _ h => h) (by rfl) (fun w5 hS5 => ?_) HSC ?_
          rotate_left
          · obtain ⟨h1, h2⟩ := hS5
            clear h1 h2
            go_simp
            try rfl
          try simp only [Act.put, List.setIfInBounds_toArray, List.set_cons_zero, List.set_cons_succ]
          refine Rg.Upto.takeA (i := 2) (v := ?_) rfl (by kernel_rfl) (by kernel_rfl) (by kernel_rfl) (of_decide_eq_true (by kernel_rfl)) (fun _ _ _ h => h) (by rfl) (fun w5 hS5 => ?_) HSC ?_
          rotate_left
          · obtain ⟨h1, h2⟩ := hS5
            clear h1 h2
            go_simp
            try rfl
          try simp only [Act.put, List.setIfInBounds_toArray, List.set_cons_zero, List.set_cons_succ]
          refine Rg.Upto.takeA (i := 3) (v := ?_) rfl (by kernel_rfl) (by kernel_rfl) (by kernel_rfl) (of_decide_eq_true (by kernel_rfl)) (fun _ _ _ h => h) (by rfl) (fun w5 hS5 => ?_) HSC ?_
          rotate_left
          · obtain ⟨h1, h2⟩ := hS5
            clear h1 h2
            go_simp
            try rfl
          try simp only [Act.put, List.setIfInBounds_toArray, List.set_cons_zero, List.set_cons_succ]
          refine Rg.Upto.takeA (i := 4) (v := ?_) rfl (by kernel_rfl) (by kernel_rfl) (by kernel_rfl) (of_decide_eq_true (by kernel_rfl)) (fun _ _ _ h => h) (by rfl) (fun w5 hS5 => ?_) HSC ?_
          rotate_left
          · obtain ⟨h1, h2⟩ := hS5
            clear h1 h2
            go_simp
            try rfl
          try simp only [Act.put, List.setIfInBounds_toArray, List.set_cons_zero, List.set_cons_succ]
          refine Rg.Upto.takeA (i := 5) (v := ?_) rfl (by kernel_rfl) (by kernel_rfl) (by kernel_rfl) (of_decide_eq_true (by kernel_rfl)) (fun _ _ _ h => h) (by rfl) (fun w5 hS5 => ?_) HSC ?_
          rotate_left
          · obtain ⟨h1, h2⟩ := hS5
            clear h1 h2
            go_simp
            try rfl
          try simp only [Act.put, List.setIfInBounds_toArray, List.set_cons_zero, List.set_cons_succ]
          refine Rg.Upto.takeA (i := 6) (v := ?_) rfl (by kernel_rfl) (by kernel_rfl) (by kernel_rfl) (of_decide_eq_true (by kernel_rfl)) (fun _ _ _ h => h) (by rfl) (fun w5 hS5 => ?_) HSC ?_
          rotate_left
          · obtain ⟨h1, h2⟩ := hS5
            have x2 := (Hp.blk_cell h2 2 rfl).1
            clear h1 h2
            go_simp
            try rfl
          try simp only [Act.put, List.setIfInBounds_toArray, List.set_cons_zero, List.set_cons_succ]
          refine Rg.Upto.takeA (i := 7) (v := ?_) rfl (by kernel_rfl) (by kernel_rfl) (by kernel_rfl) (of_decide_eq_true (by kernel_rfl)) (fun _ _ _ h => h) (by rfl) (fun w5 hS5 => ?_) HSC ?_
          rotate_left
          · obtain ⟨h1, h2⟩ := hS5
            clear h1 h2
            go_simp
            try rfl
          try simp only [Act.put, List.setIfInBounds_toArray, List.set_cons_zero, List.set_cons_succ]
          try simp only [decide_eq_false (p := R < (n3 : Int)) (by omega)]
          refine Rg.Upto.takeA (i := 8) (v := ?_) rfl (by kernel_rfl) (by kernel_rfl) (by kernel_rfl) (of_decide_eq_true (by kernel_rfl)) (fun _ _ _ h => h) (by rfl) (fun w5 hS5 => ?_) HSC ?_
          rotate_left
          · obtain ⟨h1, h2⟩ := hS5
            clear h1 h2
            go_simp
            try rfl
          try simp only [Act.put, List.setIfInBounds_toArray, List.set_cons_zero, List.set_cons_succ]
          refine Rg.Upto.takeA (i := 9) (v := ?_) rfl (by kernel_rfl) (by kernel_rfl) (by kernel_rfl) (of_decide_eq_true (by kernel_rfl)) (fun _ _ _ h => h) (by rfl) (fun w5 hS5 => ?_) HSC ?_
          rotate_left
          · obtain ⟨h1, h2⟩ := hS5
            clear h1 h2
            go_simp
            try rfl
          try simp only [Act.put, List.setIfInBounds_toArray, List.set_cons_zero, List.set_cons_succ]
          refine Rg.Upto.takeA (i := 10) (v := ?_) rfl (by kernel_rfl) (by kernel_rfl) (by kernel_rfl) (of_decide_eq_true (by kernel_rfl)) (fun _ _ _ h => h) (by rfl) (fun w5 hS5 => ?_) HSC ?_
          rotate_left
          · obtain ⟨h1, h2⟩ := hS5
            clear h1 h2
            go_simp
            try rfl
          try simp only [Act.put, List.setIfInBounds_toArray, List.set_cons_zero, List.set_cons_succ]
          refine Rg.Upto.takeA (i := 11) (v := ?_) rfl (by kernel_rfl) (by kernel_rfl) (by kernel_rfl) (of_decide_eq_true (by kernel_rfl)) (fun _ _ _ h => h) (by rfl) (fun w5 hS5 => ?_) HSC ?_
          rotate_left
          · obtain ⟨h1, h2⟩ := hS5
            clear h1 h2
            go_simp
            try rfl
          try simp only [Act.put, List.setIfInBounds_toArray, List.set_cons_zero, List.set_cons_succ]
          refine Rg.Upto.takeA (i := 12) (v := ?_) rfl (by kernel_rfl) (by kernel_rfl) (by kernel_rfl) (of_decide_eq_true (by kernel_rfl)) (fun _ _ _ h => h) (by rfl) (fun w5 hS5 => ?_) HSC ?_
          rotate_left
          · obtain ⟨h1, h2⟩ := hS5
            clear h1 h2
            go_simp
            try rfl
          try simp only [Act.put, List.setIfInBounds_toArray, List.set_cons_zero, List.set_cons_succ]
          refine Rg.Upto.takeA (i := 13) (v := ?_) rfl (by kernel_rfl) (by kernel_rfl) (by kernel_rfl) (of_decide_eq_true (by kernel_rfl)) (fun _ _ _ h => h) (by rfl) (fun w5 hS5 => ?_) HSC ?_
          rotate_left
          · obtain ⟨h1, h2⟩ := hS5
            have x6 := (Hp.blk_cell h1 6 rfl).1
            clear h1 h2
            go_simp
            try rfl
          try simp only [Act.put, List.setIfInBounds_toArray, List.set_cons_zero, List.set_cons_succ]
          refine Rg.Upto.takeA (i := 14) (v := ?_) rfl (by kernel_rfl) (by kernel_rfl) (by kernel_rfl) (of_decide_eq_true (by kernel_rfl)) (fun _ _ _ h => h) (by rfl) (fun w5 hS5 => ?_) HSC ?_
          rotate_left
          · obtain ⟨h1, h2⟩ := hS5
            clear h1 h2
            go_simp
            try rfl
          try simp only [Act.put, List.setIfInBounds_toArray, List.set_cons_zero, List.set_cons_succ]
          refine Rg.Upto.takeA (i := 15) (v := ?_) rfl (by kernel_rfl) (by kernel_rfl) (by kernel_rfl) (of_decide_eq_true (by kernel_rfl)) (fun _ _ _ h => h) (by rfl) (fun w5 hS5 => ?_) HSC ?_
          rotate_left
          · obtain ⟨h1, h2⟩ := hS5
            clear h1 h2
            go_simp
            try rfl
          try simp only [Act.put, List.setIfInBounds_toArray, List.set_cons_zero, List.set_cons_succ]
          refine Rg.Upto.takeA (i := 16) (v := ?_) rfl (by kernel_rfl) (by kernel_rfl) (by kernel_rfl) (of_decide_eq_true (by kernel_rfl)) (fun _ _ _ h => h) (by rfl) (fun w5 hS5 => ?_) HSC ?_
          rotate_left
          · obtain ⟨h1, h2⟩ := hS5
            clear h1 h2
            go_simp
            try rfl
          try simp only [Act.put, List.setIfInBounds_toArray, List.set_cons_zero, List.set_cons_succ]
          refine Rg.Upto.takeA (i := 17) (v := ?_) rfl (by kernel_rfl) (by kernel_rfl) (by kernel_rfl) (of_decide_eq_true (by kernel_rfl)) (fun _ _ _ h => h) (by rfl) (fun w5 hS5 => ?_) HSC ?_
          rotate_left
          · obtain ⟨h1, h2⟩ := hS5
            clear h1 h2
            go_simp
            try rfl
          try simp only [Act.put, List.setIfInBounds_toArray, List.set_cons_zero, List.set_cons_succ]
          refine Rg.Upto.takeA (i := 18) (v := ?_) rfl (by kernel_rfl) (by kernel_rfl) (by kernel_rfl) (of_decide_eq_true (by kernel_rfl)) (fun _ _ _ h => h) (by rfl) (fun w5 hS5 => ?_) HSC ?_
          rotate_left
          · obtain ⟨h1, h2⟩ := hS5
            have x5 := (Hp.blk_cell h1 5 rfl).1
            clear h1 h2
            go_simp
            try rfl
          try simp only [Act.put, List.setIfInBounds_toArray, List.set_cons_zero, List.set_cons_succ]
          refine Rg.Upto.takeA (i := 19) (v := ?_) rfl (by kernel_rfl) (by kernel_rfl) (by kernel_rfl) (of_decide_eq_true (by kernel_rfl)) (fun _ _ _ h => h) (by rfl) (fun w5 hS5 => ?_) HSC ?_
          rotate_left
          · obtain ⟨h1, h2⟩ := hS5
            clear h1 h2
            go_simp
            try rfl
          try simp only [Act.put, List.setIfInBounds_toArray, List.set_cons_zero, List.set_cons_succ]
          refine Rg.Upto.takeA (i := 20) (v := ?_) rfl (by kernel_rfl) (by kernel_rfl) (by kernel_rfl) (of_decide_eq_true (by kernel_rfl)) (fun _ _ _ h => h) (by rfl) (fun w5 hS5 => ?_) HSC ?_
          rotate_left
          · obtain ⟨h1, h2⟩ := hS5
            clear h1 h2
            go_simp
            try rfl
          try simp only [Act.put, List.setIfInBounds_toArray, List.set_cons_zero, List.set_cons_succ]
          try simp only [i64_small (x := (n1 : Int) + 1) (by omega) (by omega)]
          refine Rg.Upto.takeA (i := 21) (v := ?_) rfl (by kernel_rfl) (by kernel_rfl) (by kernel_rfl) (of_decide_eq_true (by kernel_rfl)) (fun _ _ _ h => h) (by rfl) (fun w5 hS5 => ?_) HSC ?_
          rotate_left
          · obtain ⟨h1, h2⟩ := hS5
            clear h1 h2
            go_simp
            try rfl
          try simp only [Act.put, List.setIfInBounds_toArray, List.set_cons_zero, List.set_cons_succ]
          try simp only [decide_eq_false (p := (n1 : Int) + 1 < (n2 : Int)) (by omega)]
          refine Rg.Upto.takeA (i := 22) (v := ?_) rfl (by kernel_rfl) (by kernel_rfl) (by kernel_rfl) (of_decide_eq_true (by kernel_rfl)) (fun _ _ _ h => h) (by rfl) (fun w5 hS5 => ?_) HSC ?_
          rotate_left
          · obtain ⟨h1, h2⟩ := hS5
            clear h1 h2
            go_simp
            try rfl
          try simp only [Act.put, List.setIfInBounds_toArray, List.set_cons_zero, List.set_cons_succ]
          refine Rg.Upto.takeA (i := 23) (v := ?_) rfl (by kernel_rfl) (by kernel_rfl) (by kernel_rfl) (of_decide_eq_true (by kernel_rfl)) (fun _ _ _ h => h) (by rfl) (fun w5 hS5 => ?_) HSC ?_
          rotate_left
          · obtain ⟨h1, h2⟩ := hS5
            clear h1 h2
            go_simp
            try rfl
          try simp only [Act.put, List.setIfInBounds_toArray, List.set_cons_zero, List.set_cons_succ]
          refine Rg.Upto.takeA (i := 24) (v := ?_) rfl (by kernel_rfl) (by kernel_rfl) (by kernel_rfl) (of_decide_eq_true (by kernel_rfl)) (fun _ _ _ h => h) (by rfl) (fun w5 hS5 => ?_) HSC ?_
          rotate_left
          · obtain ⟨h1, h2⟩ := hS5
            clear h1 h2
            go_simp
            try rfl
          try simp only [Act.put, List.setIfInBounds_toArray, List.set_cons_zero, List.set_cons_succ]
          refine Rg.Upto.takeA (i := 25) (v := ?_) rfl (by kernel_rfl) (by kernel_rfl) (by kernel_rfl) (of_decide_eq_true (by kernel_rfl)) (fun _ _ _ h => h) (by rfl) (fun w5 hS5 => ?_) HSC ?_
          rotate_left
          · obtain ⟨h1, h2⟩ := hS5
            clear h1 h2
            go_simp
            try rfl
          try simp only [Act.put, List.setIfInBounds_toArray, List.set_cons_zero, List.set_cons_succ]
          refine Rg.Upto.takeA (i := 26) (v := ?_) rfl (by kernel_rfl) (by kernel_rfl) (by kernel_rfl) (of_decide_eq_true (by kernel_rfl)) (fun _ _ _ h => h) (by rfl) (fun w5 hS5 => ?_) HSC ?_
          rotate_left
          · obtain ⟨h1, h2⟩ := hS5
            clear h1 h2
            go_simp
            try rfl
          try simp only [Act.put, List.setIfInBounds_toArray, List.set_cons_zero, List.set_cons_succ]
          refine Rg.Upto.takeA (i := 27) (v := ?_) rfl (by kernel_rfl) (by kernel_rfl) (by kernel_rfl) (of_decide_eq_true (by kernel_rfl)) (fun _ _ _ h => h) (by rfl) (fun w5 hS5 => ?_) HSC ?_
          rotate_left
          · obtain ⟨h1, h2⟩ := hS5
            have x5 := (Hp.blk_cell h1 5 rfl).1
            clear h1 h2
            go_simp
            try rfl
          try simp only [Act.put, List.setIfInBounds_toArray, List.set_cons_zero, List.set_cons_succ]
          refine Rg.Upto.takeA (i := 28) (v := ?_) rfl (by kernel_rfl) (by kernel_rfl) (by kernel_rfl) (of_decide_eq_true (by kernel_rfl)) (fun _ _ _ h => h) (by rfl) (fun w5 hS5 => ?_) HSC ?_
          rotate_left
          · obtain ⟨h1, h2⟩ := hS5
            clear h1 h2
            go_simp
            try rfl
          try simp only [Act.put, List.setIfInBounds_toArray, List.set_cons_zero, List.set_cons_succ]
          refine Rg.Upto.takeA (i := 29) (v := ?_) rfl (by kernel_rfl) (by kernel_rfl) (by kernel_rfl) (of_decide_eq_true (by kernel_rfl)) (fun _ _ _ h => h) (by rfl) (fun w5 hS5 => ?_) HSC ?_
          rotate_left
          · obtain ⟨h1, h2⟩ := hS5
            clear h1 h2
            go_simp
            try rfl
          try simp only [Act.put, List.setIfInBounds_toArray, List.set_cons_zero, List.set_cons_succ]
          refine Rg.Upto.takeA (i := 30) (v := ?_) rfl (by kernel_rfl) (by kernel_rfl) (by kernel_rfl) (of_decide_eq_true (by kernel_rfl)) (fun _ _ _ h => h) (by rfl) (fun w5 hS5 => ?_) HSC ?_
          rotate_left
          · obtain ⟨h1, h2⟩ := hS5
            clear h1 h2
            go_simp
            try rfl
          try simp only [Act.put, List.setIfInBounds_toArray, List.set_cons_zero, List.set_cons_succ]
          refine Rg.Upto.takeA (i := 31) (v := ?_) rfl (by kernel_rfl) (by kernel_rfl) (by kernel_rfl) (of_decide_eq_true (by kernel_rfl)) (fun _ _ _ h => h) (by rfl) (fun w5 hS5 => ?_) HSC ?_
          rotate_left
          · obtain ⟨h1, h2⟩ := hS5
            clear h1 h2
            go_simp
            try rfl
          try simp only [Act.put, List.setIfInBounds_toArray, List.set_cons_zero, List.set_cons_succ]
          refine Rg.Upto.takeA (i := 32) (v := ?_) rfl (by kernel_rfl) (by kernel_rfl) (by kernel_rfl) (of_decide_eq_true (by kernel_rfl)) (fun _ _ _ h => h) (by rfl) (fun w5 hS5 => ?_) HSC ?_
          rotate_left
          · obtain ⟨h1, h2⟩ := hS5
            have x6 := (Hp.blk_cell h1 6 rfl).1
            clear h1 h2
            go_simp
            try rfl
          try simp only [Act.put, List.setIfInBounds_toArray, List.set_cons_zero, List.set_cons_succ]
          refine Rg.Upto.takeA (i := 33) (v := ?_) rfl (by kernel_rfl) (by kernel_rfl) (by kernel_rfl) (of_decide_eq_true (by kernel_rfl)) (fun _ _ _ h => h) (by rfl) (fun w5 hS5 => ?_) HSC ?_
          rotate_left
          · obtain ⟨h1, h2⟩ := hS5
            clear h1 h2
            go_simp
            try rfl
          try simp only [Act.put, List.setIfInBounds_toArray, List.set_cons_zero, List.set_cons_succ]
          refine Rg.Upto.takeA (i := 34) (v := ?_) rfl (by kernel_rfl) (by kernel_rfl) (by kernel_rfl) (of_decide_eq_true (by kernel_rfl)) (fun _ _ _ h => h) (by rfl) (fun w5 hS5 => ?_) HSC ?_
          rotate_left
          · obtain ⟨h1, h2⟩ := hS5
            clear h1 h2
            go_simp
            try rfl
          try simp only [Act.put, List.setIfInBounds_toArray, List.set_cons_zero, List.set_cons_succ]
          refine Rg.Upto.takeA (i := 35) (v := ?_) rfl (by kernel_rfl) (by kernel_rfl) (by kernel_rfl) (of_decide_eq_true (by kernel_rfl)) (fun _ _ _ h => h) (by rfl) (fun w5 hS5 => ?_) HSC ?_
          rotate_left
          · obtain ⟨h1, h2⟩ := hS5
            have x2 := (Hp.blk_cell h2 2 rfl).1
            clear h1 h2
            go_simp
            try rfl
          try simp only [Act.put, List.setIfInBounds_toArray, List.set_cons_zero, List.set_cons_succ]
          refine Rg.Upto.takeA (i := 36) (v := ?_) rfl (by kernel_rfl) (by kernel_rfl) (by kernel_rfl) (of_decide_eq_true (by kernel_rfl)) (fun _ _ _ h => h) (by rfl) (fun w5 hS5 => ?_) HSC ?_
          rotate_left
          · obtain ⟨h1, h2⟩ := hS5
            clear h1 h2
            go_simp
            try rfl
          try simp only [Act.put, List.setIfInBounds_toArray, List.set_cons_zero, List.set_cons_succ]
          try simp only [i64_small (x := (n2 : Int) + R) (by omega) (by omega)]
          refine Rg.Upto.takeA (i := 37) (v := ?_) rfl (by kernel_rfl) (by kernel_rfl) (by kernel_rfl) (of_decide_eq_true (by kernel_rfl)) (fun _ _ _ h => h) (by rfl) (fun w5 hS5 => ?_) HSC ?_
          rotate_left
          · obtain ⟨h1, h2⟩ := hS5
            clear h1 h2
            go_simp
            try rfl
          try simp only [Act.put, List.setIfInBounds_toArray, List.set_cons_zero, List.set_cons_succ]
          try simp only [i64_small (x := (n2 : Int) + R + 1) (by omega) (by omega)]
          refine Rg.Upto.takeA (i := 38) (v := ?_) rfl (by kernel_rfl) (by kernel_rfl) (by kernel_rfl) (of_decide_eq_true (by kernel_rfl)) (fun _ _ _ h => h) (by rfl) (fun w5 hS5 => ?_) HSC ?_
          rotate_left
          · obtain ⟨h1, h2⟩ := hS5
            clear h1 h2
            go_simp
            try rfl
          try simp only [Act.put, List.setIfInBounds_toArray, List.set_cons_zero, List.set_cons_succ]
          try simp only [decide_eq_false (p := (n2 : Int) + R + 1 < (n1 : Int)) (by omega)]
          refine Rg.Upto.takeA (i := 39) (v := ?_) rfl (by kernel_rfl) (by kernel_rfl) (by kernel_rfl) (of_decide_eq_true (by kernel_rfl)) (fun _ _ _ h => h) (by rfl) (fun w5 hS5 => ?_) HSC ?_
          rotate_left
          · obtain ⟨h1, h2⟩ := hS5
            clear h1 h2
            go_simp
            try rfl
          try simp only [Act.put, List.setIfInBounds_toArray, List.set_cons_zero, List.set_cons_succ]
          clear HSC
          refine Rg.Upto.done (by kernel_rfl) ?_
          go_wp2_with (fail)
          go_roundw
          case rel => exact ⟨k + 1, h2, t, ym, yo2, by omega, by omega, by go_num, Lib.hid ⟨_, _, _, _, _, _, _, HX2.out⟩, HB2, KQ2⟩
          case measure => simp [intOf]; omega
      · simp only [decide_eq_false hend]
        clear hend
        have hk300 : k ≤ 300 := hk3
        go_wp2_with (fail)
        go_loopw [18] (fun v18 wr => ∃ (j : Nat) (h t : Int) (ym : Option PS) (yo : Option OS), j ≤ 5 ∧ v18 = .int .i64 j ∧ Hid (QS B1 wr a cc x p c 1 0 0 15 P T R g F F h t ym yo (k + j)) ∧ Hid (Below w.heap.size w wr) ∧ Hid (wr.heap[qx]? = some (.cells #[.int .i64 P, .int .i64 T, .int .i64 R] 23 (0, 0))) ∧ Hid (ym = none ∨ ((j : Int) + 1 ≤ kU ym ∧ kU ym ≤ 3))) (fun v18 _ => 5 - (intOf v18).toNat)
        case atStart => exact ⟨0, _, _, _, _, by omega, rfl, HQr, HBr, KQr, Lib.hid HQr.out.ku⟩
        case round =>
          obtain ⟨j, h, t, ym, yo, hj5, rfl, HQ2, HB2, KQ2, HU⟩ := hrel
          clear HQr HBr KQr
          obtain ⟨s, f, ps, pu, po, vp, vt, q⟩ := HQ2.out
          obtain ⟨x2, -⟩ := Hp.blk_cell q.que.blk 2 rfl
          have hmu := q.mu
          go_upto_region 23 with (fail)
          go_cut [140] (fun v140 wz => wz = wr ∧ v140 = .bool ym.isSome)
          case first =>
            by_cases hj : (j : Int) < 5
            · rcases hmu with ⟨rfl, rfl⟩ | ⟨m, y, rfl, rfl, -, -⟩
              · clear q
                simp only [pv, Option.map] at x2
                go_wp2_with (fail)
                go_meet
                case rel => exact ⟨rfl, rfl⟩
              · clear q
                simp only [pv, Option.map] at x2
                go_wp2_with (fail)
                go_meet
                case rel => exact ⟨rfl, rfl⟩
            · have hym : ym = none := by
                rcases HU.out with h1 | h1
                · exact h1
                · exfalso; omega
              subst hym
              clear q hmu x2
              go_wp2_with (fail)
              go_meet
              case rel => exact ⟨rfl, rfl⟩
          case rest =>
            obtain ⟨rfl, rfl⟩ := hcut
            clear q x2 hmu
            cases ym with
            | some y =>
              simp only [Option.isSome]
              have hj4 : j < 5 := by
                rcases HU.out with h1 | h1
                · cases h1
                · omega
              (obtain ⟨c0, -⟩ := Hp.blk_cell KQ2.out 0 rfl)
              (obtain ⟨c1, -⟩ := Hp.blk_cell KQ2.out 1 rfl)
              (obtain ⟨c2, -⟩ := Hp.blk_cell KQ2.out 2 rfl)
              go_wp2_with (first
                | (go_at_call 19; ((have hm := HQ2.out.puts (by omega)); (with_reducible refine hm.mono ?_); clear hm; rintro e w9 ⟨rfl, ⟨t2, ym2, hq2, hst⟩, hb⟩; (have HQ3 := Lib.hid hq2); (have HU2 := Lib.hid hst); clear c0 c1 c2; replace KQ2 := Lib.hid ((hb.block qx HQL.out).trans KQ2.out); replace HB2 := Lib.hid (HB2.out.trans (hb.mono HB1.out)); clear hq2 hb hst)))
              go_roundw
              case rel => exact ⟨j + 1, h, t2, ym2, yo, by omega, by go_num, HQ3, HB2, KQ2, Lib.hid (by
                have hU := HU.out
                have hU2 := HU2.out
                rcases hU2 with ⟨h1, _⟩ | ⟨_, _, h3, h4, _⟩
                · exact .inl h1
                · rcases hU with h5 | h5
                  · cases h5
                  · exact .inr ⟨by push_cast; omega, by omega⟩)⟩
              case measure => simp [intOf]; omega
            | none =>
              simp only [Option.isSome]
              have HKO := Lib.hid HQ2.out.ko
              obtain ⟨M, hM⟩ : ∃ M : Nat, M = (4 * R + 12).toNat := ⟨_, rfl⟩
              have hM2 : (M : Int) = 4 * R + 12 := by omega
              have eM : wrap64 (4 * wrap64 (R + 3)) = (M : Int) := by unfold wrap64; omega
              have HM2 := Lib.hid hM2
              clear hM hM2
              go_wp2_with (fail)
              go_loopw [19] (fun v19 wr => ∃ (i : Nat) (h : Int) (yo : Option OS), i ≤ M ∧ v19 = .int .i64 i ∧ Hid (QS B1 wr a cc x p c 1 0 0 15 P T R g F F h t none yo (305 + i)) ∧ Hid (Below w.heap.size w wr) ∧ Hid (wr.heap[qx]? = some (.cells #[.int .i64 P, .int .i64 T, .int .i64 R] 23 (0, 0))) ∧ Hid (h = t ∨ 4 * (t - h) - kO yo ≤ 4 * R - i)) (fun v19 _ => M - (intOf v19).toNat)
              case atStart => exact ⟨0, h, yo, Nat.zero_le _, rfl, Lib.hid (HQ2.out.up (by omega)), HB2, KQ2, Lib.hid (.inr (by have := HKO.out; push_cast; omega))⟩
              case round =>
                obtain ⟨i, h, yo, hiM, rfl, HQ3, HB3, KQ3, HPO⟩ := hrel
                clear HQ2 HB2 KQ2 HU HKO
                have hM40 : M ≤ 40 := by have := HM2.out; omega
                (obtain ⟨c0, -⟩ := Hp.blk_cell KQ3.out 0 rfl)
                (obtain ⟨c1, -⟩ := Hp.blk_cell KQ3.out 1 rfl)
                (obtain ⟨c2, -⟩ := Hp.blk_cell KQ3.out 2 rfl)
                go_upto_region 27 with (fail)
                go_cut [151] (fun v151 wz => wz = wr ∧ v151 = .bool (decide (i < M)))
                case first =>
                  have HM2o := HM2.out
                  go_wp2_with (fail)
                  go_meet
                  case rel => exact ⟨rfl, congrArg Value.bool (decide_eq_decide.2 (by omega))⟩
                case rest =>
                obtain ⟨rfl, rfl⟩ := hcut
                by_cases hi : i < M
                · simp only [decide_eq_true hi]
                  go_wp2_with (first
                    | (go_at_call 18; ((have hm := HQ3.out.takes (by omega)); (with_reducible refine hm.mono ?_); clear hm; rintro e w9 ⟨rfl, ⟨h2, yo2, hq2, hst⟩, hb⟩; (have HKO := Lib.hid HQ3.out.ko); (have HQ4 := Lib.hid hq2); (have HU2 := Lib.hid hst); clear c0 c1 c2; replace KQ3 := Lib.hid ((hb.block qx HQL.out).trans KQ3.out); replace HB3 := Lib.hid (HB3.out.trans (hb.mono HB1.out)); clear hq2 hb hst)))
                  go_roundw
                  case rel => exact ⟨i + 1, h2, yo2, by omega, by go_num, HQ4, HB3, KQ3, Lib.hid (by
                    have hU := HU2.out
                    have hK := HKO.out
                    have hP := HPO.out
                    by_cases hht : h = t
                    · exact .inl (hU.2.2.2 hht)
                    · have := hU.2.2.1 (by omega)
                      rcases hP with h5 | h5
                      · exact absurd h5 hht
                      · exact .inr (by push_cast; omega))⟩
                  case measure => simp [intOf]; omega
                · simp only [decide_eq_false hi]
                  obtain rfl : i = M := by omega
                  have hht : h = t := by
                    have hK := HQ3.out.ko
                    have := HM2.out
                    rcases HPO.out with h5 | h5
                    · exact h5
                    · omega
                  subst hht
                  obtain ⟨s, f, ps, pu, po, vp, vt, q⟩ := HQ3.out
                  have hpu : pu = none := by
                    rcases q.mu with ⟨_, h1⟩ | ⟨m, y, h1, _⟩
                    · exact h1
                    · cases h1
                  subst hpu
                  have HX := Lib.hid (q.below (w' := wc.drew) ⟨rfl, rfl, rfl, Nat.le_refl _, fun _ _ => rfl⟩)
                  have hnb : (h - F).toNat ≤ 400 := by have := q.rng; push_cast at this; omega
                  clear q HQ3
                  obtain ⟨n, hn⟩ : ∃ n : Nat, n = (h - F).toNat := ⟨_, rfl⟩
                  rw [← hn] at hnb
                  have HN5 := Lib.hid hn
                  clear hn
                  obtain ⟨A1, k1, rfl⟩ := row_slice (n1 := n) HX.out.que.rp (by rw [run_len]; exact HN5.out.symm)
                  obtain ⟨A2, k2, rfl⟩ := row_slice (n1 := n) HX.out.que.rt (by rw [run_len]; exact HN5.out.symm)
                  replace HB3 := Lib.hid HB3.out.drew
                  go_upto_region 30 with (fail)
                  clear c0 c1 c2 KQ3
                  try simp only [List.append_eq, List.append, List.cons_append, List.nil_append]
                  refine Rg.Upto.start (fun w' => w'.heap[x]? = some (.cells #[.pointer (some ⟨p, 0, none⟩), .pointer (some ⟨c, 0, none⟩), pv none, pv po, .int .u64 (g h), .slice A1 n k1, .slice A2 n k2, .bool true] 50 (0, 0))) 1000 (by kernel_rfl) HX.out.que.blk (fun HSC => ?_)
                  refine Rg.Upto.takeA (i := 0) (v := ?_) rfl (by kernel_rfl) (by kernel_rfl) (by kernel_rfl) (of_decide_eq_true (by kernel_rfl)) (fun _ _ _ h => h) (by rfl) (fun w5 hS5 => ?_) HSC ?_
                  rotate_left
                  · have h1 := hS5
                    clear hS5
                    clear h1
                    go_simp
                    try rfl
                  try simp only [Act.put, List.setIfInBounds_toArray, List.set_cons_zero, List.set_cons_succ]
                  refine Rg.Upto.takeA (i := 1) (v := ?_) rfl (by kernel_rfl) (by kernel_rfl) (by kernel_rfl) (of_decide_eq_true (by kernel_rfl)) (fun _ _ _ h => h) (by rfl) (fun w5 hS5 => ?_) HSC ?_
                  rotate_left
                  · have h1 := hS5
                    clear hS5
                    clear h1
                    go_simp
                    try rfl
                  try simp only [Act.put, List.setIfInBounds_toArray, List.set_cons_zero, List.set_cons_succ]
                  refine Rg.Upto.takeA (i := 2) (v := ?_) rfl (by kernel_rfl) (by kernel_rfl) (by kernel_rfl) (of_decide_eq_true (by kernel_rfl)) (fun _ _ _ h => h) (by rfl) (fun w5 hS5 => ?_) HSC ?_
                  rotate_left
                  · have h1 := hS5
                    clear hS5
                    clear h1
                    go_simp
                    try rfl
                  try simp only [Act.put, List.setIfInBounds_toArray, List.set_cons_zero, List.set_cons_succ]
                  refine Rg.Upto.takeA (i := 3) (v := ?_) rfl (by kernel_rfl) (by kernel_rfl) (by kernel_rfl) (of_decide_eq_true (by kernel_rfl)) (fun _ _ _ h => h) (by rfl) (fun w5 hS5 => ?_) HSC ?_
                  rotate_left
                  · have h1 := hS5
                    clear hS5
                    have x7 := (Hp.blk_cell h1 7 rfl).1
                    clear h1
                    go_simp
                    try rfl
                  try simp only [Act.put, List.setIfInBounds_toArray, List.set_cons_zero, List.set_cons_succ]
                  refine Rg.Upto.takeA (i := 4) (v := ?_) rfl (by kernel_rfl) (by kernel_rfl) (by kernel_rfl) (of_decide_eq_true (by kernel_rfl)) (fun _ _ _ h => h) (by rfl) (fun w5 hS5 => ?_) HSC ?_
                  rotate_left
                  · have h1 := hS5
                    clear hS5
                    clear h1
                    go_simp
                    try rfl
                  try simp only [Act.put, List.setIfInBounds_toArray, List.set_cons_zero, List.set_cons_succ]
                  refine Rg.Upto.takeA (i := 5) (v := ?_) rfl (by kernel_rfl) (by kernel_rfl) (by kernel_rfl) (of_decide_eq_true (by kernel_rfl)) (fun _ _ _ h => h) (by rfl) (fun w5 hS5 => ?_) HSC ?_
                  rotate_left
                  · have h1 := hS5
                    clear hS5
                    clear h1
                    go_simp
                    try rfl
                  try simp only [Act.put, List.setIfInBounds_toArray, List.set_cons_zero, List.set_cons_succ]
                  refine Rg.Upto.takeA (i := 6) (v := ?_) rfl (by kernel_rfl) (by kernel_rfl) (by kernel_rfl) (of_decide_eq_true (by kernel_rfl)) (fun _ _ _ h => h) (by rfl) (fun w5 hS5 => ?_) HSC ?_
                  rotate_left
                  · have h1 := hS5
                    clear hS5
                    clear h1
                    go_simp
                    try rfl
                  try simp only [Act.put, List.setIfInBounds_toArray, List.set_cons_zero, List.set_cons_succ]
                  refine Rg.Upto.takeA (i := 7) (v := ?_) rfl (by kernel_rfl) (by kernel_rfl) (by kernel_rfl) (of_decide_eq_true (by kernel_rfl)) (fun _ _ _ h => h) (by rfl) (fun w5 hS5 => ?_) HSC ?_
                  rotate_left
                  · have h1 := hS5
                    clear hS5
                    clear h1
                    go_simp
                    try rfl
                  try simp only [Act.put, List.setIfInBounds_toArray, List.set_cons_zero, List.set_cons_succ]
                  refine Rg.Upto.takeA (i := 8) (v := ?_) rfl (by kernel_rfl) (by kernel_rfl) (by kernel_rfl) (of_decide_eq_true (by kernel_rfl)) (fun _ _ _ h => h) (by rfl) (fun w5 hS5 => ?_) HSC ?_
                  rotate_left
                  · have h1 := hS5
                    clear hS5
                    clear h1
                    go_simp
                    try rfl
                  try simp only [Act.put, List.setIfInBounds_toArray, List.set_cons_zero, List.set_cons_succ]
                  refine Rg.Upto.takeA (i := 9) (v := ?_) rfl (by kernel_rfl) (by kernel_rfl) (by kernel_rfl) (of_decide_eq_true (by kernel_rfl)) (fun _ _ _ h => h) (by rfl) (fun w5 hS5 => ?_) HSC ?_
                  rotate_left
                  · have h1 := hS5
                    clear hS5
                    have x2 := (Hp.blk_cell h1 2 (v := .pointer none) rfl).1
                    clear h1
                    go_simp
                    try rfl
                  try simp only [Act.put, List.setIfInBounds_toArray, List.set_cons_zero, List.set_cons_succ]
                  refine Rg.Upto.takeA (i := 10) (v := ?_) rfl (by kernel_rfl) (by kernel_rfl) (by kernel_rfl) (of_decide_eq_true (by kernel_rfl)) (fun _ _ _ h => h) (by rfl) (fun w5 hS5 => ?_) HSC ?_
                  rotate_left
                  · have h1 := hS5
                    clear hS5
                    clear h1
                    go_simp
                    try rfl
                  try simp only [Act.put, List.setIfInBounds_toArray, List.set_cons_zero, List.set_cons_succ]
                  refine Rg.Upto.takeA (i := 11) (v := ?_) rfl (by kernel_rfl) (by kernel_rfl) (by kernel_rfl) (of_decide_eq_true (by kernel_rfl)) (fun _ _ _ h => h) (by rfl) (fun w5 hS5 => ?_) HSC ?_
                  rotate_left
                  · have h1 := hS5
                    clear hS5
                    clear h1
                    go_simp
                    try rfl
                  try simp only [Act.put, List.setIfInBounds_toArray, List.set_cons_zero, List.set_cons_succ]
                  refine Rg.Upto.takeA (i := 12) (v := ?_) rfl (by kernel_rfl) (by kernel_rfl) (by kernel_rfl) (of_decide_eq_true (by kernel_rfl)) (fun _ _ _ h => h) (by rfl) (fun w5 hS5 => ?_) HSC ?_
                  rotate_left
                  · have h1 := hS5
                    clear hS5
                    clear h1
                    go_simp
                    try rfl
                  try simp only [Act.put, List.setIfInBounds_toArray, List.set_cons_zero, List.set_cons_succ]
                  refine Rg.Upto.takeA (i := 13) (v := ?_) rfl (by kernel_rfl) (by kernel_rfl) (by kernel_rfl) (of_decide_eq_true (by kernel_rfl)) (fun _ _ _ h => h) (by rfl) (fun w5 hS5 => ?_) HSC ?_
                  rotate_left
                  · have h1 := hS5
                    clear hS5
                    clear h1
                    go_simp
                    try rfl
                  try simp only [Act.put, List.setIfInBounds_toArray, List.set_cons_zero, List.set_cons_succ]
                  refine Rg.Upto.takeA (i := 14) (v := ?_) rfl (by kernel_rfl) (by kernel_rfl) (by kernel_rfl) (of_decide_eq_true (by kernel_rfl)) (fun _ _ _ h => h) (by rfl) (fun w5 hS5 => ?_) HSC ?_
                  rotate_left
                  · have h1 := hS5
                    clear hS5
                    clear h1
                    go_simp
                    try rfl
                  try simp only [Act.put, List.setIfInBounds_toArray, List.set_cons_zero, List.set_cons_succ]
                  refine Rg.Upto.takeA (i := 15) (v := ?_) rfl (by kernel_rfl) (by kernel_rfl) (by kernel_rfl) (of_decide_eq_true (by kernel_rfl)) (fun _ _ _ h => h) (by rfl) (fun w5 hS5 => ?_) HSC ?_
                  rotate_left
                  · have h1 := hS5
                    clear hS5
                    clear h1
                    go_simp
                    try rfl
                  try simp only [Act.put, List.setIfInBounds_toArray, List.set_cons_zero, List.set_cons_succ]
                  refine Rg.Upto.takeA (i := 16) (v := ?_) rfl (by kernel_rfl) (by kernel_rfl) (by kernel_rfl) (of_decide_eq_true (by kernel_rfl)) (fun _ _ _ h => h) (by rfl) (fun w5 hS5 => ?_) HSC ?_
                  rotate_left
                  · have h1 := hS5
                    clear hS5
                    have x6 := (Hp.blk_cell h1 6 rfl).1
                    clear h1
                    go_simp
                    try rfl
                  try simp only [Act.put, List.setIfInBounds_toArray, List.set_cons_zero, List.set_cons_succ]
                  refine Rg.Upto.takeA (i := 17) (v := ?_) rfl (by kernel_rfl) (by kernel_rfl) (by kernel_rfl) (of_decide_eq_true (by kernel_rfl)) (fun _ _ _ h => h) (by rfl) (fun w5 hS5 => ?_) HSC ?_
                  rotate_left
                  · have h1 := hS5
                    clear hS5
                    clear h1
                    go_simp
                    try rfl
                  try simp only [Act.put, List.setIfInBounds_toArray, List.set_cons_zero, List.set_cons_succ]
                  refine Rg.Upto.takeA (i := 18) (v := ?_) rfl (by kernel_rfl) (by kernel_rfl) (by kernel_rfl) (of_decide_eq_true (by kernel_rfl)) (fun _ _ _ h => h) (by rfl) (fun w5 hS5 => ?_) HSC ?_
                  rotate_left
                  · have h1 := hS5
                    clear hS5
                    clear h1
                    go_simp
                    try rfl
                  try simp only [Act.put, List.setIfInBounds_toArray, List.set_cons_zero, List.set_cons_succ]
                  refine Rg.Upto.takeA (i := 19) (v := ?_) rfl (by kernel_rfl) (by kernel_rfl) (by kernel_rfl) (of_decide_eq_true (by kernel_rfl)) (fun _ _ _ h => h) (by rfl) (fun w5 hS5 => ?_) HSC ?_
                  rotate_left
                  · have h1 := hS5
                    clear hS5
                    clear h1
                    go_simp
                    try rfl
                  try simp only [Act.put, List.setIfInBounds_toArray, List.set_cons_zero, List.set_cons_succ]
                  refine Rg.Upto.takeA (i := 20) (v := ?_) rfl (by kernel_rfl) (by kernel_rfl) (by kernel_rfl) (of_decide_eq_true (by kernel_rfl)) (fun _ _ _ h => h) (by rfl) (fun w5 hS5 => ?_) HSC ?_
                  rotate_left
                  · have h1 := hS5
                    clear hS5
                    clear h1
                    go_simp
                    try rfl
                  try simp only [Act.put, List.setIfInBounds_toArray, List.set_cons_zero, List.set_cons_succ]
                  refine Rg.Upto.takeA (i := 21) (v := ?_) rfl (by kernel_rfl) (by kernel_rfl) (by kernel_rfl) (of_decide_eq_true (by kernel_rfl)) (fun _ _ _ h => h) (by rfl) (fun w5 hS5 => ?_) HSC ?_
                  rotate_left
                  · have h1 := hS5
                    clear hS5
                    have x5 := (Hp.blk_cell h1 5 rfl).1
                    clear h1
                    go_simp
                    try rfl
                  try simp only [Act.put, List.setIfInBounds_toArray, List.set_cons_zero, List.set_cons_succ]
                  refine Rg.Upto.takeA (i := 22) (v := ?_) rfl (by kernel_rfl) (by kernel_rfl) (by kernel_rfl) (of_decide_eq_true (by kernel_rfl)) (fun _ _ _ h => h) (by rfl) (fun w5 hS5 => ?_) HSC ?_
                  rotate_left
                  · have h1 := hS5
                    clear hS5
                    clear h1
                    go_simp
                    try rfl
                  try simp only [Act.put, List.setIfInBounds_toArray, List.set_cons_zero, List.set_cons_succ]
                  refine Rg.Upto.takeA (i := 23) (v := ?_) rfl (by kernel_rfl) (by kernel_rfl) (by kernel_rfl) (of_decide_eq_true (by kernel_rfl)) (fun _ _ _ h => h) (by rfl) (fun w5 hS5 => ?_) HSC ?_
                  rotate_left
                  · have h1 := hS5
                    clear hS5
                    clear h1
                    go_simp
                    try rfl
                  try simp only [Act.put, List.setIfInBounds_toArray, List.set_cons_zero, List.set_cons_succ]
                  refine Rg.Upto.takeA (i := 24) (v := ?_) rfl (by kernel_rfl) (by kernel_rfl) (by kernel_rfl) (of_decide_eq_true (by kernel_rfl)) (fun _ _ _ h => h) (by rfl) (fun w5 hS5 => ?_) HSC ?_
                  rotate_left
                  · have h1 := hS5
                    clear hS5
                    clear h1
                    go_simp
                    try rfl
                  try simp only [Act.put, List.setIfInBounds_toArray, List.set_cons_zero, List.set_cons_succ]
                  refine Rg.Upto.takeA (i := 25) (v := ?_) rfl (by kernel_rfl) (by kernel_rfl) (by kernel_rfl) (of_decide_eq_true (by kernel_rfl)) (fun _ _ _ h => h) (by rfl) (fun w5 hS5 => ?_) HSC ?_
                  rotate_left
                  · have h1 := hS5
                    clear hS5
                    clear h1
                    go_simp
                    try rfl
                  try simp only [Act.put, List.setIfInBounds_toArray, List.set_cons_zero, List.set_cons_succ]
                  refine Rg.Upto.takeA (i := 26) (v := ?_) rfl (by kernel_rfl) (by kernel_rfl) (by kernel_rfl) (of_decide_eq_true (by kernel_rfl)) (fun _ _ _ h => h) (by rfl) (fun w5 hS5 => ?_) HSC ?_
                  rotate_left
                  · have h1 := hS5
                    clear hS5
                    clear h1
                    go_simp
                    try rfl
                  try simp only [Act.put, List.setIfInBounds_toArray, List.set_cons_zero, List.set_cons_succ]
                  refine Rg.Upto.one (i := 27) rfl (by kernel_rfl) (by rfl) (fun KK hK => ?_)
                  go_simp
                  have hm := HX.out.sys.faults
                  rw [HX.out.vw.nof] at hm
                  (with_reducible refine hm.mono ?_)
                  clear hm
                  rintro e w6 ⟨rfl, hw⟩
                  obtain rfl := hw.symm
                  refine hK.out _ _ HSC ?_
                  clear hK KK
                  try simp only [Act.put, List.setIfInBounds_toArray, List.set_cons_zero, List.set_cons_succ]
                  refine Rg.Upto.takeA (i := 28) (v := ?_) rfl (by kernel_rfl) (by kernel_rfl) (by kernel_rfl) (of_decide_eq_true (by kernel_rfl)) (fun _ _ _ h => h) (by rfl) (fun w5 hS5 => ?_) HSC ?_
                  rotate_left
                  · have h1 := hS5
                    clear hS5
                    clear h1
                    go_simp
                    try rfl
                  try simp only [Act.put, List.setIfInBounds_toArray, List.set_cons_zero, List.set_cons_succ]
                  refine Rg.Upto.takeA (i := 29) (v := ?_) rfl (by kernel_rfl) (by kernel_rfl) (by kernel_rfl) (of_decide_eq_true (by kernel_rfl)) (fun _ _ _ h => h) (by rfl) (fun w5 hS5 => ?_) HSC ?_
                  rotate_left
                  · have h1 := hS5
                    clear hS5
                    clear h1
                    go_simp
                    try rfl
                  try simp only [Act.put, List.setIfInBounds_toArray, List.set_cons_zero, List.set_cons_succ]
                  clear HSC
                  refine Rg.Upto.done (by kernel_rfl) ?_
                  go_wp2_with (fail)
                  go_loopw [20] (fun v20 wz => wz = wc.drew ∧ ∃ i : Nat, i ≤ n ∧ v20 = .int .i64 i) (fun v20 _ => n - (intOf v20).toNat)
                  case atStart => exact ⟨rfl, 0, Nat.zero_le _, rfl⟩
                  case round =>
                    obtain ⟨rfl, i, hin, rfl⟩ := hrel
                    obtain ⟨x5, -⟩ := Hp.blk_cell HX.out.que.blk 5 rfl
                    obtain ⟨x6, -⟩ := Hp.blk_cell HX.out.que.blk 6 rfl
                    by_cases hi : i < n
                    · obtain ⟨g1, cap1, hs1, -, -, hI1⟩ := img_at (n := n) HX.out.que.rp (by rw [run_len]; exact HN5.out.symm) (by omega)
                      obtain ⟨g2, cap2, hs2, -, -, hI2⟩ := img_at (n := n) HX.out.que.rt (by rw [run_len]; exact HN5.out.symm) (by omega)
                      simp only [Value.slice.injEq] at hs1 hs2
                      obtain ⟨rfl, -, -⟩ := hs1
                      obtain ⟨rfl, -, -⟩ := hs2
                      have y1 := hI1.cell i (by rw [run_len, ← HN5.out]; exact hi)
                      have y2 := hI2.cell i (by rw [run_len, ← HN5.out]; exact hi)
                      rw [run_get g F _ i (by rw [← HN5.out]; exact hi), HG.out, show F + (i : Int) - F + 1 = (i : Int) + 1 by omega] at y1 y2
                      have ew : wrap64 ((i : Int) + 1) = (i : Int) + 1 := by unfold wrap64; omega
                      have eu : IntKind.u64.wrap ((i : Int) + 1) = (i : Int) + 1 := u64_small (by omega) (by omega)
                      clear hI1 hI2
                      go_wp2_with (fail)
                      go_roundw
                      case rel => exact ⟨by trivial, i + 1, by omega, by go_num⟩
                      case measure => simp [intOf]; omega
                    · obtain rfl : i = n := by omega
                      go_wp2_with (fail)
                      go_ret
                      exact ⟨by trivial, HB3.out⟩
end Go.Proofs.Ytdcikbhfoplkmaa.Ar

/- TopHeads, walked. -/
import Derived.Test.YtddkockeeodklaaThP
import Derived.Test.YtddkockeeodklaaRg
import Derived.Deep.Cut
import Derived.Deep.DeepCutAuto
namespace Go.Proofs.Ytddkockeeodklaa.Th
open Go Go.RowKit Go.Proofs.Ytddkockeeodklaa.Hp
open Go.Proofs.Ytddkockeeodklaa.Pure Go.Proofs.Ytddkockeeodklaa.Wd Go.Proofs.Ytddkockeeodklaa.Bt Go.Proofs.Ytddkockeeodklaa.Eo Go.Proofs.YtddkockeeodklaaW.PrintMore Go.Proofs.YtddkockeeodklaaW.PrintWords Go.Proofs.YtddkockeeodklaaW.PrintLast Go.Proofs.Ytddkockeeodklaa.Hd Go.Proofs.Ytddkockeeodklaa.PAll
set_option linter.unusedVariables false
set_option linter.unusedSimpArgs false

theorem new_at2 (w : World) (x : Obj) {n : Nat} (hn : w.heap.size = n) : (w.alloc x).heap[n]? = some x := by
  subst hn
  exact Hp.blk_new w x
theorem ofBlk {w : World} {b t : Nat} {k : IntKind} {xs : List Int} (h : w.heap[b]? = some (.cells (xs.map (Value.int k)).toArray t (0, 0))) (hl : xs.length ≤ 1000) : Kd.C (Kd.int k) w (some ⟨b, 0, none⟩) xs.length xs := by
  refine ⟨rfl, by omega, fun _ => ⟨_, rfl, fun j p hp => ?_⟩⟩
  obtain ⟨hj, hx⟩ := List.getElem?_eq_some_iff.1 hp
  refine ⟨[.int k p], rfl, rfl, fun i u hu => ?_⟩
  match i, hu with
  | 0, hu =>
    have hu : some (Value.int k p) = some u := hu
    rw [← hu]
    have ha : (⟨b, 0, none⟩ : Addr).add (j * (Kd.int k).sz + 0) = ⟨b, j, none⟩ := by
      rw [show j * (Kd.int k).sz + 0 = j from Nat.mul_one j]
      simp [Addr.add]
      rintro rfl
      rfl
    rw [ha]
    exact (Hp.blk_cell h j (by simp [hp])).1
theorem cells_of {w : World} {A : Option Addr} {k : IntKind} {n : Nat} {xs : List Int} (h : Kd.C (Kd.int k) w A n xs) (hn : 0 < n) : ∃ ad, A = some ad ∧ ∀ (j : Nat) (p : Int), xs[j]? = some p → w.cell? (ad.add j) = some (.int k p) := by
  obtain ⟨ad, e, hc⟩ := h.2.2 hn
  refine ⟨ad, e, fun j p hp => ?_⟩
  obtain ⟨c, h1, h2, h3⟩ := hc j p hp
  have h2 : c = [.int k p] := h2
  subst h2
  have := h3 0 _ rfl
  rwa [show j * (Kd.int k).sz + 0 = j from Nat.mul_one j] at this

set_option maxHeartbeats 4000000 in
set_option maxRecDepth 100000 in
theorem heads (a0 a1 a2 b0 b1 b2 b3 b4 n W0 V e V4 e4 q X d0 d1 d2 dl cx ce : Int) (xs : List Int) (w : World)
    (H0 : ∀ w, Calls Try.prog 4 #[.agg #[.int .i64 0, .int .i64 2, .int .i64 5]] w fun e w' => e = .returned (.tuple #[.int .u64 W0, .int .i64 0]) ∧ Below w.heap.size w w')
    (h0 : Go.bits .and .u64 W0 255 = 2)
    (H1 : ∀ w, Calls Try.prog 4 #[.agg #[.int .i64 a0, .int .i64 a1, .int .i64 a2]] w fun e' w' => e' = .returned (.tuple #[.int .u64 V, .int .i64 e]) ∧ Below w.heap.size w w')
    (G1 : e = 0 → ∀ w, Calls Try.prog 5 #[.int .u64 V, .int .i64 0, .int .i64 8] w fun e w' => e = .returned (.tuple #[.int .u64 a1, .int .i64 0]) ∧ Below w.heap.size w w')
    (G2 : e = 0 → ∀ w, Calls Try.prog 5 #[.int .u64 V, .int .i64 8, .int .i64 8] w fun e w' => e = .returned (.tuple #[.int .u64 a0, .int .i64 0]) ∧ Below w.heap.size w w')
    (G3 : e = 0 → ∀ w, Calls Try.prog 5 #[.int .u64 V, .int .i64 16, .int .i64 8] w fun e w' => e = .returned (.tuple #[.int .u64 a2, .int .i64 0]) ∧ Below w.heap.size w w')
    (hw : e = 0 → wrap64 a0 = a0 ∧ wrap64 a1 = a1 ∧ wrap64 a2 = a2)
    (hq : wrap64 (Int.tmod (IntKind.u64.wrap n) 256) = q) (hq2 : IntKind.u64.wrap q = q)
    (G4 : e = 0 → ∀ w, Calls Try.prog 6 #[.int .u64 V, .int .i64 16, .int .i64 8, .int .u64 q] w fun e w' => e = .returned (.tuple #[.int .u64 X, .int .i64 0]) ∧ Below w.heap.size w w')
    (G5 : e = 0 → ∀ w, Calls Try.prog 7 #[.int .u64 X] w fun e w' => e = .returned (.tuple #[.agg #[.int .i64 d0, .int .i64 d1, .int .i64 d2], .int .i64 dl]) ∧ Below w.heap.size w w')
    (G6 : e = 0 → ∀ w, Calls Try.prog 4 #[.agg #[.int .i64 a0, .int .i64 a1, .int .i64 q]] w fun e w' => e = .returned (.tuple #[.int .u64 cx, .int .i64 ce]) ∧ Below w.heap.size w w')
    (hp : e = 0 → (dl = 0 ∧ ce = 0 ∧ d2 = q ∧ cx = X) ∨ (dl ≠ 0 ∧ ce ≠ 0))
    (H7 : ∀ w, Calls Try.prog 8 #[.agg #[.int .i64 b0, .int .i64 b1, .int .i64 b2, .int .i64 b3, .int .i64 b4]] w fun e w' => e = .returned (.tuple #[.int .u64 V4, .int .i64 e4]) ∧ Below w.heap.size w w')
    (h7 : (e4 ≠ 0 ∧ V4 = 0) ∨ e4 = 0)
    (h8 : e4 = 0 → wrap64 b0 = b0 ∧ wrap64 b1 = b1 ∧ wrap64 b2 = b2 ∧ wrap64 b3 = b3 ∧ wrap64 b4 = b4)
    (G8 : e4 = 0 → ∀ w B c, Kd.C (Kd.int .i64) w (some ⟨B, 0, none⟩) 6 [2, 4, 2, 4, 4, 32] → 6 ≤ c → Calls Try.prog 9 #[.int .u64 V4, .slice (some ⟨B, 0, none⟩) 6 c] w fun e w' => ∃ v, e = .returned (.tuple #[v, .int .i64 0]) ∧ (∃ A cap, v = .slice A 6 cap ∧ Kd.C (Kd.int .u64) w' A 6 [b0, b1, b2, b3, 0, b4]) ∧ Below w.heap.size w w') :
    Calls Try.prog 3 #[.agg #[.int .i64 a0, .int .i64 a1, .int .i64 a2], .agg #[.int .i64 b0, .int .i64 b1, .int .i64 b2, .int .i64 b3, .int .i64 b4], .int .i64 n] w fun e w' => e = .returned (.bool true) ∧ Below w.heap.size w w' := by
  have KH0 := Lib.hid H0
  have Kh0 := Lib.hid h0
  have KH1 := Lib.hid H1
  have KG1 := Lib.hid G1
  have KG2 := Lib.hid G2
  have KG3 := Lib.hid G3
  have Khw := Lib.hid hw
  have Khq := Lib.hid hq
  have Khq2 := Lib.hid hq2
  have KG4 := Lib.hid G4
  have KG5 := Lib.hid G5
  have KG6 := Lib.hid G6
  have Khp := Lib.hid hp
  have KH7 := Lib.hid H7
  have Kh7 := Lib.hid h7
  have Kh8 := Lib.hid h8
  have KG8 := Lib.hid G8
  clear H0 h0 H1 G1 G2 G3 hw hq hq2 G4 G5 G6 hp H7 h7 h8 G8
  go_enter Try.func3, Try.ntmps3
  go_upto_region 1 with (fail)
  have B3 := Lib.hid (Hp.blk_alloc (Hp.blk_new w (.cells #[.int .i64 a0, .int .i64 a1, .int .i64 a2] 23)) (.cells #[.int .i64 b0, .int .i64 b1, .int .i64 b2, .int .i64 b3, .int .i64 b4] 25))
  have B4 := Lib.hid (new_at2 (w.alloc (.cells #[.int .i64 a0, .int .i64 a1, .int .i64 a2] 23)) (.cells #[.int .i64 b0, .int .i64 b1, .int .i64 b2, .int .i64 b3, .int .i64 b4] 25) (n := w.heap.size + 1) (by simp))
  have HB := Lib.hid (((Below.refl w.heap.size w).alloc (Nat.le_refl _) (.cells #[.int .i64 a0, .int .i64 a1, .int .i64 a2] 23)).alloc (by simp) (.cells #[.int .i64 b0, .int .i64 b1, .int .i64 b2, .int .i64 b3, .int .i64 b4] 25))
  generalize (w.alloc (.cells #[.int .i64 a0, .int .i64 a1, .int .i64 a2] 23)).alloc (.cells #[.int .i64 b0, .int .i64 b1, .int .i64 b2, .int .i64 b3, .int .i64 b4] 25) = w1 at B3 B4 HB ⊢
  (obtain ⟨p0, -⟩ := Hp.blk_cell B3.out 0 rfl)
  (obtain ⟨p1, -⟩ := Hp.blk_cell B3.out 1 rfl)
  (obtain ⟨p2, -⟩ := Hp.blk_cell B3.out 2 rfl)
  (obtain ⟨r0, -⟩ := Hp.blk_cell B4.out 0 rfl)
  (obtain ⟨r1, -⟩ := Hp.blk_cell B4.out 1 rfl)
  (obtain ⟨r2, -⟩ := Hp.blk_cell B4.out 2 rfl)
  (obtain ⟨r3, -⟩ := Hp.blk_cell B4.out 3 rfl)
  (obtain ⟨r4, -⟩ := Hp.blk_cell B4.out 4 rfl)
  have f0 := Kh0.out
  go_upto_if 42 with (first
      | (go_at_call 4; (with_reducible refine (KH0.out _).mono ?_; rintro e w7 ⟨rfl, hb⟩; clear p0 p1 p2 r0 r1 r2 r3 r4; replace HB := Lib.hid (HB.out.trans (hb.mono HB.out.size)); replace B3 := Lib.hid ((hb.block _ (Hp.blk_lt B3.out)).trans B3.out); replace B4 := Lib.hid ((hb.block _ (Hp.blk_lt B4.out)).trans B4.out); clear hb; (obtain ⟨p0, -⟩ := Hp.blk_cell B3.out 0 rfl); (obtain ⟨p1, -⟩ := Hp.blk_cell B3.out 1 rfl); (obtain ⟨p2, -⟩ := Hp.blk_cell B3.out 2 rfl); (obtain ⟨r0, -⟩ := Hp.blk_cell B4.out 0 rfl); (obtain ⟨r1, -⟩ := Hp.blk_cell B4.out 1 rfl); (obtain ⟨r2, -⟩ := Hp.blk_cell B4.out 2 rfl); (obtain ⟨r3, -⟩ := Hp.blk_cell B4.out 3 rfl); (obtain ⟨r4, -⟩ := Hp.blk_cell B4.out 4 rfl)))
      | (go_at_call 4; (with_reducible refine (KH1.out _).mono ?_; rintro e w7 ⟨rfl, hb⟩; clear p0 p1 p2 r0 r1 r2 r3 r4; replace HB := Lib.hid (HB.out.trans (hb.mono HB.out.size)); replace B3 := Lib.hid ((hb.block _ (Hp.blk_lt B3.out)).trans B3.out); replace B4 := Lib.hid ((hb.block _ (Hp.blk_lt B4.out)).trans B4.out); clear hb; (obtain ⟨p0, -⟩ := Hp.blk_cell B3.out 0 rfl); (obtain ⟨p1, -⟩ := Hp.blk_cell B3.out 1 rfl); (obtain ⟨p2, -⟩ := Hp.blk_cell B3.out 2 rfl); (obtain ⟨r0, -⟩ := Hp.blk_cell B4.out 0 rfl); (obtain ⟨r1, -⟩ := Hp.blk_cell B4.out 1 rfl); (obtain ⟨r2, -⟩ := Hp.blk_cell B4.out 2 rfl); (obtain ⟨r3, -⟩ := Hp.blk_cell B4.out 3 rfl); (obtain ⟨r4, -⟩ := Hp.blk_cell B4.out 4 rfl))))
  clear f0
  clear p0 p1 p2 r0 r1 r2 r3 r4
  go_cut [] (fun wx => Hid (wx.heap[w.heap.size]? = some (.cells #[.int .i64 a0, .int .i64 a1, .int .i64 a2] 23 (0, 0))) ∧ Hid (wx.heap[w.heap.size + 1]? = some (.cells #[.int .i64 b0, .int .i64 b1, .int .i64 b2, .int .i64 b3, .int .i64 b4] 25 (0, 0))) ∧ Hid (Below w.heap.size w wx))
  case first =>
    by_cases he : e = 0
    · subst he
      obtain ⟨w0, w1', w2⟩ := Khw.out rfl
      have L1 := Lib.hid (KG1.out rfl)
      have L2 := Lib.hid (KG2.out rfl)
      have L3 := Lib.hid (KG3.out rfl)
      have L4 := Lib.hid (KG4.out rfl)
      have L5 := Lib.hid (KG5.out rfl)
      have L6 := Lib.hid (KG6.out rfl)
      have Lp := Lib.hid (Khp.out rfl)
      clear KG1 KG2 KG3 KG4 KG5 KG6 Khp Khw KH0 KH1 Kh0
      have fq := Khq.out
      have fq2 := Khq2.out
      (obtain ⟨p0, -⟩ := Hp.blk_cell B3.out 0 rfl)
      (obtain ⟨p1, -⟩ := Hp.blk_cell B3.out 1 rfl)
      (obtain ⟨p2, -⟩ := Hp.blk_cell B3.out 2 rfl)
      (obtain ⟨r0, -⟩ := Hp.blk_cell B4.out 0 rfl)
      (obtain ⟨r1, -⟩ := Hp.blk_cell B4.out 1 rfl)
      (obtain ⟨r2, -⟩ := Hp.blk_cell B4.out 2 rfl)
      (obtain ⟨r3, -⟩ := Hp.blk_cell B4.out 3 rfl)
      (obtain ⟨r4, -⟩ := Hp.blk_cell B4.out 4 rfl)
      rcases Lp.out with ⟨rfl, rfl, rfl, rfl⟩ | ⟨z1, z2⟩
      · go_upto_region 14 with (first
            | (go_at_call 5; (with_reducible refine (L1.out _).mono ?_; rintro e w7 ⟨rfl, hb⟩; clear p0 p1 p2 r0 r1 r2 r3 r4; replace HB := Lib.hid (HB.out.trans (hb.mono HB.out.size)); replace B3 := Lib.hid ((hb.block _ (Hp.blk_lt B3.out)).trans B3.out); replace B4 := Lib.hid ((hb.block _ (Hp.blk_lt B4.out)).trans B4.out); clear hb; (obtain ⟨p0, -⟩ := Hp.blk_cell B3.out 0 rfl); (obtain ⟨p1, -⟩ := Hp.blk_cell B3.out 1 rfl); (obtain ⟨p2, -⟩ := Hp.blk_cell B3.out 2 rfl); (obtain ⟨r0, -⟩ := Hp.blk_cell B4.out 0 rfl); (obtain ⟨r1, -⟩ := Hp.blk_cell B4.out 1 rfl); (obtain ⟨r2, -⟩ := Hp.blk_cell B4.out 2 rfl); (obtain ⟨r3, -⟩ := Hp.blk_cell B4.out 3 rfl); (obtain ⟨r4, -⟩ := Hp.blk_cell B4.out 4 rfl)))
            | (go_at_call 5; (with_reducible refine (L2.out _).mono ?_; rintro e w7 ⟨rfl, hb⟩; clear p0 p1 p2 r0 r1 r2 r3 r4; replace HB := Lib.hid (HB.out.trans (hb.mono HB.out.size)); replace B3 := Lib.hid ((hb.block _ (Hp.blk_lt B3.out)).trans B3.out); replace B4 := Lib.hid ((hb.block _ (Hp.blk_lt B4.out)).trans B4.out); clear hb; (obtain ⟨p0, -⟩ := Hp.blk_cell B3.out 0 rfl); (obtain ⟨p1, -⟩ := Hp.blk_cell B3.out 1 rfl); (obtain ⟨p2, -⟩ := Hp.blk_cell B3.out 2 rfl); (obtain ⟨r0, -⟩ := Hp.blk_cell B4.out 0 rfl); (obtain ⟨r1, -⟩ := Hp.blk_cell B4.out 1 rfl); (obtain ⟨r2, -⟩ := Hp.blk_cell B4.out 2 rfl); (obtain ⟨r3, -⟩ := Hp.blk_cell B4.out 3 rfl); (obtain ⟨r4, -⟩ := Hp.blk_cell B4.out 4 rfl)))
            | (go_at_call 5; (with_reducible refine (L3.out _).mono ?_; rintro e w7 ⟨rfl, hb⟩; clear p0 p1 p2 r0 r1 r2 r3 r4; replace HB := Lib.hid (HB.out.trans (hb.mono HB.out.size)); replace B3 := Lib.hid ((hb.block _ (Hp.blk_lt B3.out)).trans B3.out); replace B4 := Lib.hid ((hb.block _ (Hp.blk_lt B4.out)).trans B4.out); clear hb; (obtain ⟨p0, -⟩ := Hp.blk_cell B3.out 0 rfl); (obtain ⟨p1, -⟩ := Hp.blk_cell B3.out 1 rfl); (obtain ⟨p2, -⟩ := Hp.blk_cell B3.out 2 rfl); (obtain ⟨r0, -⟩ := Hp.blk_cell B4.out 0 rfl); (obtain ⟨r1, -⟩ := Hp.blk_cell B4.out 1 rfl); (obtain ⟨r2, -⟩ := Hp.blk_cell B4.out 2 rfl); (obtain ⟨r3, -⟩ := Hp.blk_cell B4.out 3 rfl); (obtain ⟨r4, -⟩ := Hp.blk_cell B4.out 4 rfl)))
            | (go_at_call 6; (with_reducible refine (L4.out _).mono ?_; rintro e w7 ⟨rfl, hb⟩; clear p0 p1 p2 r0 r1 r2 r3 r4; replace HB := Lib.hid (HB.out.trans (hb.mono HB.out.size)); replace B3 := Lib.hid ((hb.block _ (Hp.blk_lt B3.out)).trans B3.out); replace B4 := Lib.hid ((hb.block _ (Hp.blk_lt B4.out)).trans B4.out); clear hb; (obtain ⟨p0, -⟩ := Hp.blk_cell B3.out 0 rfl); (obtain ⟨p1, -⟩ := Hp.blk_cell B3.out 1 rfl); (obtain ⟨p2, -⟩ := Hp.blk_cell B3.out 2 rfl); (obtain ⟨r0, -⟩ := Hp.blk_cell B4.out 0 rfl); (obtain ⟨r1, -⟩ := Hp.blk_cell B4.out 1 rfl); (obtain ⟨r2, -⟩ := Hp.blk_cell B4.out 2 rfl); (obtain ⟨r3, -⟩ := Hp.blk_cell B4.out 3 rfl); (obtain ⟨r4, -⟩ := Hp.blk_cell B4.out 4 rfl)))
            | (go_at_call 7; (with_reducible refine (L5.out _).mono ?_; rintro e w7 ⟨rfl, hb⟩; clear p0 p1 p2 r0 r1 r2 r3 r4; replace HB := Lib.hid (HB.out.trans (hb.mono HB.out.size)); replace B3 := Lib.hid ((hb.block _ (Hp.blk_lt B3.out)).trans B3.out); replace B4 := Lib.hid ((hb.block _ (Hp.blk_lt B4.out)).trans B4.out); clear hb; (obtain ⟨p0, -⟩ := Hp.blk_cell B3.out 0 rfl); (obtain ⟨p1, -⟩ := Hp.blk_cell B3.out 1 rfl); (obtain ⟨p2, -⟩ := Hp.blk_cell B3.out 2 rfl); (obtain ⟨r0, -⟩ := Hp.blk_cell B4.out 0 rfl); (obtain ⟨r1, -⟩ := Hp.blk_cell B4.out 1 rfl); (obtain ⟨r2, -⟩ := Hp.blk_cell B4.out 2 rfl); (obtain ⟨r3, -⟩ := Hp.blk_cell B4.out 3 rfl); (obtain ⟨r4, -⟩ := Hp.blk_cell B4.out 4 rfl))))
        clear p0 p1 p2 r0 r1 r2 r3 r4
        replace HB := Lib.hid (HB.out.alloc HB.out.size (.cells #[.int .i64 d0, .int .i64 d1, .int .i64 d2] 23))
        replace B3 := Lib.hid (Hp.blk_alloc B3.out (.cells #[.int .i64 d0, .int .i64 d1, .int .i64 d2] 23))
        replace B4 := Lib.hid (Hp.blk_alloc B4.out (.cells #[.int .i64 d0, .int .i64 d1, .int .i64 d2] 23))
        have BD := Lib.hid (Hp.blk_new w7 (.cells #[.int .i64 d0, .int .i64 d1, .int .i64 d2] 23))
        generalize w7.heap.size = gd at BD ⊢
        generalize w7.alloc (.cells #[.int .i64 d0, .int .i64 d1, .int .i64 d2] 23) = w8 at B3 B4 BD HB ⊢
        (obtain ⟨p0, -⟩ := Hp.blk_cell B3.out 0 rfl)
        (obtain ⟨p1, -⟩ := Hp.blk_cell B3.out 1 rfl)
        (obtain ⟨p2, -⟩ := Hp.blk_cell B3.out 2 rfl)
        (obtain ⟨r0, -⟩ := Hp.blk_cell B4.out 0 rfl)
        (obtain ⟨r1, -⟩ := Hp.blk_cell B4.out 1 rfl)
        (obtain ⟨r2, -⟩ := Hp.blk_cell B4.out 2 rfl)
        (obtain ⟨r3, -⟩ := Hp.blk_cell B4.out 3 rfl)
        (obtain ⟨r4, -⟩ := Hp.blk_cell B4.out 4 rfl)
        obtain ⟨s2, -⟩ := Hp.blk_cell BD.out 2 rfl
        go_wp2_with (first
            | (go_at_call 4; (with_reducible refine (L6.out _).mono ?_; rintro e w7 ⟨rfl, hb⟩; clear p0 p1 p2 r0 r1 r2 r3 r4 s2; replace HB := Lib.hid (HB.out.trans (hb.mono HB.out.size)); replace B3 := Lib.hid ((hb.block _ (Hp.blk_lt B3.out)).trans B3.out); replace B4 := Lib.hid ((hb.block _ (Hp.blk_lt B4.out)).trans B4.out); replace BD := Lib.hid ((hb.block _ (Hp.blk_lt BD.out)).trans BD.out); clear hb; (obtain ⟨p0, -⟩ := Hp.blk_cell B3.out 0 rfl); (obtain ⟨p1, -⟩ := Hp.blk_cell B3.out 1 rfl); (obtain ⟨p2, -⟩ := Hp.blk_cell B3.out 2 rfl); (obtain ⟨r0, -⟩ := Hp.blk_cell B4.out 0 rfl); (obtain ⟨r1, -⟩ := Hp.blk_cell B4.out 1 rfl); (obtain ⟨r2, -⟩ := Hp.blk_cell B4.out 2 rfl); (obtain ⟨r3, -⟩ := Hp.blk_cell B4.out 3 rfl); (obtain ⟨r4, -⟩ := Hp.blk_cell B4.out 4 rfl); (obtain ⟨s2, -⟩ := Hp.blk_cell BD.out 2 rfl))))
        go_meet
        exact ⟨B3, B4, HB⟩
      · have z3 : (dl == 0) = false := by simp [z1]
        have z4 : (ce == 0) = false := by simp [z2]
        go_upto_region 14 with (first
            | (go_at_call 5; (with_reducible refine (L1.out _).mono ?_; rintro e w7 ⟨rfl, hb⟩; clear p0 p1 p2 r0 r1 r2 r3 r4; replace HB := Lib.hid (HB.out.trans (hb.mono HB.out.size)); replace B3 := Lib.hid ((hb.block _ (Hp.blk_lt B3.out)).trans B3.out); replace B4 := Lib.hid ((hb.block _ (Hp.blk_lt B4.out)).trans B4.out); clear hb; (obtain ⟨p0, -⟩ := Hp.blk_cell B3.out 0 rfl); (obtain ⟨p1, -⟩ := Hp.blk_cell B3.out 1 rfl); (obtain ⟨p2, -⟩ := Hp.blk_cell B3.out 2 rfl); (obtain ⟨r0, -⟩ := Hp.blk_cell B4.out 0 rfl); (obtain ⟨r1, -⟩ := Hp.blk_cell B4.out 1 rfl); (obtain ⟨r2, -⟩ := Hp.blk_cell B4.out 2 rfl); (obtain ⟨r3, -⟩ := Hp.blk_cell B4.out 3 rfl); (obtain ⟨r4, -⟩ := Hp.blk_cell B4.out 4 rfl)))
            | (go_at_call 5; (with_reducible refine (L2.out _).mono ?_; rintro e w7 ⟨rfl, hb⟩; clear p0 p1 p2 r0 r1 r2 r3 r4; replace HB := Lib.hid (HB.out.trans (hb.mono HB.out.size)); replace B3 := Lib.hid ((hb.block _ (Hp.blk_lt B3.out)).trans B3.out); replace B4 := Lib.hid ((hb.block _ (Hp.blk_lt B4.out)).trans B4.out); clear hb; (obtain ⟨p0, -⟩ := Hp.blk_cell B3.out 0 rfl); (obtain ⟨p1, -⟩ := Hp.blk_cell B3.out 1 rfl); (obtain ⟨p2, -⟩ := Hp.blk_cell B3.out 2 rfl); (obtain ⟨r0, -⟩ := Hp.blk_cell B4.out 0 rfl); (obtain ⟨r1, -⟩ := Hp.blk_cell B4.out 1 rfl); (obtain ⟨r2, -⟩ := Hp.blk_cell B4.out 2 rfl); (obtain ⟨r3, -⟩ := Hp.blk_cell B4.out 3 rfl); (obtain ⟨r4, -⟩ := Hp.blk_cell B4.out 4 rfl)))
            | (go_at_call 5; (with_reducible refine (L3.out _).mono ?_; rintro e w7 ⟨rfl, hb⟩; clear p0 p1 p2 r0 r1 r2 r3 r4; replace HB := Lib.hid (HB.out.trans (hb.mono HB.out.size)); replace B3 := Lib.hid ((hb.block _ (Hp.blk_lt B3.out)).trans B3.out); replace B4 := Lib.hid ((hb.block _ (Hp.blk_lt B4.out)).trans B4.out); clear hb; (obtain ⟨p0, -⟩ := Hp.blk_cell B3.out 0 rfl); (obtain ⟨p1, -⟩ := Hp.blk_cell B3.out 1 rfl); (obtain ⟨p2, -⟩ := Hp.blk_cell B3.out 2 rfl); (obtain ⟨r0, -⟩ := Hp.blk_cell B4.out 0 rfl); (obtain ⟨r1, -⟩ := Hp.blk_cell B4.out 1 rfl); (obtain ⟨r2, -⟩ := Hp.blk_cell B4.out 2 rfl); (obtain ⟨r3, -⟩ := Hp.blk_cell B4.out 3 rfl); (obtain ⟨r4, -⟩ := Hp.blk_cell B4.out 4 rfl)))
            | (go_at_call 6; (with_reducible refine (L4.out _).mono ?_; rintro e w7 ⟨rfl, hb⟩; clear p0 p1 p2 r0 r1 r2 r3 r4; replace HB := Lib.hid (HB.out.trans (hb.mono HB.out.size)); replace B3 := Lib.hid ((hb.block _ (Hp.blk_lt B3.out)).trans B3.out); replace B4 := Lib.hid ((hb.block _ (Hp.blk_lt B4.out)).trans B4.out); clear hb; (obtain ⟨p0, -⟩ := Hp.blk_cell B3.out 0 rfl); (obtain ⟨p1, -⟩ := Hp.blk_cell B3.out 1 rfl); (obtain ⟨p2, -⟩ := Hp.blk_cell B3.out 2 rfl); (obtain ⟨r0, -⟩ := Hp.blk_cell B4.out 0 rfl); (obtain ⟨r1, -⟩ := Hp.blk_cell B4.out 1 rfl); (obtain ⟨r2, -⟩ := Hp.blk_cell B4.out 2 rfl); (obtain ⟨r3, -⟩ := Hp.blk_cell B4.out 3 rfl); (obtain ⟨r4, -⟩ := Hp.blk_cell B4.out 4 rfl)))
            | (go_at_call 7; (with_reducible refine (L5.out _).mono ?_; rintro e w7 ⟨rfl, hb⟩; clear p0 p1 p2 r0 r1 r2 r3 r4; replace HB := Lib.hid (HB.out.trans (hb.mono HB.out.size)); replace B3 := Lib.hid ((hb.block _ (Hp.blk_lt B3.out)).trans B3.out); replace B4 := Lib.hid ((hb.block _ (Hp.blk_lt B4.out)).trans B4.out); clear hb; (obtain ⟨p0, -⟩ := Hp.blk_cell B3.out 0 rfl); (obtain ⟨p1, -⟩ := Hp.blk_cell B3.out 1 rfl); (obtain ⟨p2, -⟩ := Hp.blk_cell B3.out 2 rfl); (obtain ⟨r0, -⟩ := Hp.blk_cell B4.out 0 rfl); (obtain ⟨r1, -⟩ := Hp.blk_cell B4.out 1 rfl); (obtain ⟨r2, -⟩ := Hp.blk_cell B4.out 2 rfl); (obtain ⟨r3, -⟩ := Hp.blk_cell B4.out 3 rfl); (obtain ⟨r4, -⟩ := Hp.blk_cell B4.out 4 rfl))))
        clear p0 p1 p2 r0 r1 r2 r3 r4
        replace HB := Lib.hid (HB.out.alloc HB.out.size (.cells #[.int .i64 d0, .int .i64 d1, .int .i64 d2] 23))
        replace B3 := Lib.hid (Hp.blk_alloc B3.out (.cells #[.int .i64 d0, .int .i64 d1, .int .i64 d2] 23))
        replace B4 := Lib.hid (Hp.blk_alloc B4.out (.cells #[.int .i64 d0, .int .i64 d1, .int .i64 d2] 23))
        have BD := Lib.hid (Hp.blk_new w7 (.cells #[.int .i64 d0, .int .i64 d1, .int .i64 d2] 23))
        generalize w7.heap.size = gd at BD ⊢
        generalize w7.alloc (.cells #[.int .i64 d0, .int .i64 d1, .int .i64 d2] 23) = w8 at B3 B4 BD HB ⊢
        (obtain ⟨p0, -⟩ := Hp.blk_cell B3.out 0 rfl)
        (obtain ⟨p1, -⟩ := Hp.blk_cell B3.out 1 rfl)
        (obtain ⟨p2, -⟩ := Hp.blk_cell B3.out 2 rfl)
        (obtain ⟨r0, -⟩ := Hp.blk_cell B4.out 0 rfl)
        (obtain ⟨r1, -⟩ := Hp.blk_cell B4.out 1 rfl)
        (obtain ⟨r2, -⟩ := Hp.blk_cell B4.out 2 rfl)
        (obtain ⟨r3, -⟩ := Hp.blk_cell B4.out 3 rfl)
        (obtain ⟨r4, -⟩ := Hp.blk_cell B4.out 4 rfl)
        obtain ⟨s2, -⟩ := Hp.blk_cell BD.out 2 rfl
        go_wp2_with (first
            | (go_at_call 4; (with_reducible refine (L6.out _).mono ?_; rintro e w7 ⟨rfl, hb⟩; clear p0 p1 p2 r0 r1 r2 r3 r4 s2; replace HB := Lib.hid (HB.out.trans (hb.mono HB.out.size)); replace B3 := Lib.hid ((hb.block _ (Hp.blk_lt B3.out)).trans B3.out); replace B4 := Lib.hid ((hb.block _ (Hp.blk_lt B4.out)).trans B4.out); replace BD := Lib.hid ((hb.block _ (Hp.blk_lt BD.out)).trans BD.out); clear hb; (obtain ⟨p0, -⟩ := Hp.blk_cell B3.out 0 rfl); (obtain ⟨p1, -⟩ := Hp.blk_cell B3.out 1 rfl); (obtain ⟨p2, -⟩ := Hp.blk_cell B3.out 2 rfl); (obtain ⟨r0, -⟩ := Hp.blk_cell B4.out 0 rfl); (obtain ⟨r1, -⟩ := Hp.blk_cell B4.out 1 rfl); (obtain ⟨r2, -⟩ := Hp.blk_cell B4.out 2 rfl); (obtain ⟨r3, -⟩ := Hp.blk_cell B4.out 3 rfl); (obtain ⟨r4, -⟩ := Hp.blk_cell B4.out 4 rfl); (obtain ⟨s2, -⟩ := Hp.blk_cell BD.out 2 rfl))))
        go_meet
        exact ⟨B3, B4, HB⟩
    · have z1 : (e == 0) = false := by simp [he]
      go_wp2_with (fail)
      go_meet
      exact ⟨B3, B4, HB⟩
  case rest =>
    obtain ⟨B3, B4, HB⟩ := hcut
    (obtain ⟨p0, -⟩ := Hp.blk_cell B3.out 0 rfl)
    (obtain ⟨p1, -⟩ := Hp.blk_cell B3.out 1 rfl)
    (obtain ⟨p2, -⟩ := Hp.blk_cell B3.out 2 rfl)
    (obtain ⟨r0, -⟩ := Hp.blk_cell B4.out 0 rfl)
    (obtain ⟨r1, -⟩ := Hp.blk_cell B4.out 1 rfl)
    (obtain ⟨r2, -⟩ := Hp.blk_cell B4.out 2 rfl)
    (obtain ⟨r3, -⟩ := Hp.blk_cell B4.out 3 rfl)
    (obtain ⟨r4, -⟩ := Hp.blk_cell B4.out 4 rfl)
    rcases Kh7.out with ⟨z1, rfl⟩ | rfl
    · have z2 : (e4 != 0) = true := by simp [z1]
      go_wp2_with (first
          | (go_at_call 8; (with_reducible refine (KH7.out _).mono ?_; rintro e w7 ⟨rfl, hb⟩; clear p0 p1 p2 r0 r1 r2 r3 r4; replace HB := Lib.hid (HB.out.trans (hb.mono HB.out.size)); replace B3 := Lib.hid ((hb.block _ (Hp.blk_lt B3.out)).trans B3.out); replace B4 := Lib.hid ((hb.block _ (Hp.blk_lt B4.out)).trans B4.out); clear hb; (obtain ⟨p0, -⟩ := Hp.blk_cell B3.out 0 rfl); (obtain ⟨p1, -⟩ := Hp.blk_cell B3.out 1 rfl); (obtain ⟨p2, -⟩ := Hp.blk_cell B3.out 2 rfl); (obtain ⟨r0, -⟩ := Hp.blk_cell B4.out 0 rfl); (obtain ⟨r1, -⟩ := Hp.blk_cell B4.out 1 rfl); (obtain ⟨r2, -⟩ := Hp.blk_cell B4.out 2 rfl); (obtain ⟨r3, -⟩ := Hp.blk_cell B4.out 3 rfl); (obtain ⟨r4, -⟩ := Hp.blk_cell B4.out 4 rfl))))
      go_ret
      exact ⟨rfl, HB.out⟩
    · have L8 := Lib.hid (KG8.out rfl)
      obtain ⟨g0, g1, g2, g3, g4⟩ := Kh8.out rfl
      go_upto_region 21 with (first
          | (go_at_call 8; (with_reducible refine (KH7.out _).mono ?_; rintro e w7 ⟨rfl, hb⟩; clear p0 p1 p2 r0 r1 r2 r3 r4; replace HB := Lib.hid (HB.out.trans (hb.mono HB.out.size)); replace B3 := Lib.hid ((hb.block _ (Hp.blk_lt B3.out)).trans B3.out); replace B4 := Lib.hid ((hb.block _ (Hp.blk_lt B4.out)).trans B4.out); clear hb; (obtain ⟨p0, -⟩ := Hp.blk_cell B3.out 0 rfl); (obtain ⟨p1, -⟩ := Hp.blk_cell B3.out 1 rfl); (obtain ⟨p2, -⟩ := Hp.blk_cell B3.out 2 rfl); (obtain ⟨r0, -⟩ := Hp.blk_cell B4.out 0 rfl); (obtain ⟨r1, -⟩ := Hp.blk_cell B4.out 1 rfl); (obtain ⟨r2, -⟩ := Hp.blk_cell B4.out 2 rfl); (obtain ⟨r3, -⟩ := Hp.blk_cell B4.out 3 rfl); (obtain ⟨r4, -⟩ := Hp.blk_cell B4.out 4 rfl)))
          | (go_at_call 9; ((have hm := L8.out (w7.alloc (.cells #[.int .i64 2, .int .i64 4, .int .i64 2, .int .i64 4, .int .i64 4, .int .i64 32] 3)) w7.heap.size 6 (ofBlk (xs := [2, 4, 2, 4, 4, 32]) (Hp.blk_new w7 (.cells #[.int .i64 2, .int .i64 4, .int .i64 2, .int .i64 4, .int .i64 4, .int .i64 32] 3)) (by decide)) (Nat.le_refl _)); with_reducible refine hm.mono ?_; clear hm; rintro e w9 ⟨v, rfl, ⟨AU, capU, rfl, hC⟩, hb⟩; clear p0 p1 p2 r0 r1 r2 r3 r4; replace HB := Lib.hid ((HB.out.alloc HB.out.size (.cells #[.int .i64 2, .int .i64 4, .int .i64 2, .int .i64 4, .int .i64 4, .int .i64 32] 3)).trans (hb.mono (Nat.le_trans HB.out.size (by simp)))); replace B4 := Lib.hid ((hb.block _ (Hp.blk_lt (Hp.blk_alloc B4.out (.cells #[.int .i64 2, .int .i64 4, .int .i64 2, .int .i64 4, .int .i64 4, .int .i64 32] 3)))).trans (Hp.blk_alloc B4.out (.cells #[.int .i64 2, .int .i64 4, .int .i64 2, .int .i64 4, .int .i64 4, .int .i64 32] 3))); (obtain ⟨adU, rfl, hr⟩ := cells_of hC (by omega)); (have HRR := Lib.hid hr); clear hb hC hr)))
      try simp only [List.append_eq, List.append, List.cons_append, List.nil_append]
      refine Rg.Upto.start (fun w' => w'.heap[w.heap.size + 1]? = some (.cells #[.int .i64 b0, .int .i64 b1, .int .i64 b2, .int .i64 b3, .int .i64 b4] 25 (0, 0)) ∧ (∀ (j : Nat) (p : Int), [b0, b1, b2, b3, 0, b4][j]? = some p → w'.cell? (adU.add j) = some (.int .u64 p))) 1000 (by kernel_rfl) ⟨B4.out, HRR.out⟩ (fun HS => ?_)
      have HSC := HS
      clear HS
      refine Rg.Upto.takeA (i := 0) (v := ?_) rfl (by kernel_rfl) (by kernel_rfl) (by kernel_rfl) (of_decide_eq_true (by kernel_rfl)) (fun _ _ _ h => h) (by rfl) (fun w5 hS5 => ?_) HSC ?_
      rotate_left
      · clear hS5
        go_simp
        try rfl
      try simp only [Act.put, List.setIfInBounds_toArray, List.set_cons_zero, List.set_cons_succ]
      refine Rg.Upto.takeA (i := 1) (v := ?_) rfl (by kernel_rfl) (by kernel_rfl) (by kernel_rfl) (of_decide_eq_true (by kernel_rfl)) (fun _ _ _ h => h) (by rfl) (fun w5 hS5 => ?_) HSC ?_
      rotate_left
      · clear hS5
        go_simp
        try rfl
      try simp only [Act.put, List.setIfInBounds_toArray, List.set_cons_zero, List.set_cons_succ]
      refine Rg.Upto.takeA (i := 2) (v := ?_) rfl (by kernel_rfl) (by kernel_rfl) (by kernel_rfl) (of_decide_eq_true (by kernel_rfl)) (fun _ _ _ h => h) (by rfl) (fun w5 hS5 => ?_) HSC ?_
      rotate_left
      · clear hS5
        go_simp
        try rfl
      try simp only [Act.put, List.setIfInBounds_toArray, List.set_cons_zero, List.set_cons_succ]
      refine Rg.Upto.takeA (i := 3) (v := ?_) rfl (by kernel_rfl) (by kernel_rfl) (by kernel_rfl) (of_decide_eq_true (by kernel_rfl)) (fun _ _ _ h => h) (by rfl) (fun w5 hS5 => ?_) HSC ?_
      rotate_left
      · clear hS5
        go_simp
        try rfl
      try simp only [Act.put, List.setIfInBounds_toArray, List.set_cons_zero, List.set_cons_succ]
      refine Rg.Upto.takeA (i := 4) (v := ?_) rfl (by kernel_rfl) (by kernel_rfl) (by kernel_rfl) (of_decide_eq_true (by kernel_rfl)) (fun _ _ _ h => h) (by rfl) (fun w5 hS5 => ?_) HSC ?_
      rotate_left
      · clear hS5
        go_simp
        try rfl
      try simp only [Act.put, List.setIfInBounds_toArray, List.set_cons_zero, List.set_cons_succ]
      refine Rg.Upto.takeA (i := 5) (v := .bool true) rfl (by kernel_rfl) (by kernel_rfl) (by kernel_rfl) (of_decide_eq_true (by kernel_rfl)) (fun _ _ _ h => h) (by rfl) (fun w5 hS5 => ?_) HSC ?_
      · clear hS5
        go_simp
        try simp only [beq_self_eq_true]
        try first | rfl | (rw [IntKind.wrap_i64]; unfold wrap64 at g0 g1 g2 g3 g4; omega)
      try simp only [Act.put, List.setIfInBounds_toArray, List.set_cons_zero, List.set_cons_succ]
      refine Rg.Upto.takeA (i := 6) (v := ?_) rfl (by kernel_rfl) (by kernel_rfl) (by kernel_rfl) (of_decide_eq_true (by kernel_rfl)) (fun _ _ _ h => h) (by rfl) (fun w5 hS5 => ?_) HSC ?_
      rotate_left
      · clear hS5
        go_simp
        try rfl
      try simp only [Act.put, List.setIfInBounds_toArray, List.set_cons_zero, List.set_cons_succ]
      refine Rg.Upto.takeA (i := 7) (v := ?_) rfl (by kernel_rfl) (by kernel_rfl) (by kernel_rfl) (of_decide_eq_true (by kernel_rfl)) (fun _ _ _ h => h) (by rfl) (fun w5 hS5 => ?_) HSC ?_
      rotate_left
      · clear hS5
        go_simp
        try rfl
      try simp only [Act.put, List.setIfInBounds_toArray, List.set_cons_zero, List.set_cons_succ]
      refine Rg.Upto.takeA (i := 8) (v := ?_) rfl (by kernel_rfl) (by kernel_rfl) (by kernel_rfl) (of_decide_eq_true (by kernel_rfl)) (fun _ _ _ h => h) (by rfl) (fun w5 hS5 => ?_) HSC ?_
      rotate_left
      · clear hS5
        go_simp
        try rfl
      try simp only [Act.put, List.setIfInBounds_toArray, List.set_cons_zero, List.set_cons_succ]
      refine Rg.Upto.takeA (i := 9) (v := ?_) rfl (by kernel_rfl) (by kernel_rfl) (by kernel_rfl) (of_decide_eq_true (by kernel_rfl)) (fun _ _ _ h => h) (by rfl) (fun w5 hS5 => ?_) HSC ?_
      rotate_left
      · clear hS5
        go_simp
        try rfl
      try simp only [Act.put, List.setIfInBounds_toArray, List.set_cons_zero, List.set_cons_succ]
      refine Rg.Upto.takeA (i := 10) (v := ?_) rfl (by kernel_rfl) (by kernel_rfl) (by kernel_rfl) (of_decide_eq_true (by kernel_rfl)) (fun _ _ _ h => h) (by rfl) (fun w5 hS5 => ?_) HSC ?_
      rotate_left
      · obtain ⟨hS1, hS2⟩ := hS5
        have q : w5.cell? adU = some (.int .u64 b0) := hS2 0 b0 rfl
        clear hS1 hS2
        go_simp
        try rfl
      try simp only [Act.put, List.setIfInBounds_toArray, List.set_cons_zero, List.set_cons_succ]
      refine Rg.Upto.takeA (i := 11) (v := .int .i64 b0) rfl (by kernel_rfl) (by kernel_rfl) (by kernel_rfl) (of_decide_eq_true (by kernel_rfl)) (fun _ _ _ h => h) (by rfl) (fun w5 hS5 => ?_) HSC ?_
      · clear hS5
        go_simp
        try simp only [beq_self_eq_true]
        try first | rfl | (rw [IntKind.wrap_i64]; unfold wrap64 at g0 g1 g2 g3 g4; omega)
      try simp only [Act.put, List.setIfInBounds_toArray, List.set_cons_zero, List.set_cons_succ]
      refine Rg.Upto.takeA (i := 12) (v := ?_) rfl (by kernel_rfl) (by kernel_rfl) (by kernel_rfl) (of_decide_eq_true (by kernel_rfl)) (fun _ _ _ h => h) (by rfl) (fun w5 hS5 => ?_) HSC ?_
      rotate_left
      · clear hS5
        go_simp
        try rfl
      try simp only [Act.put, List.setIfInBounds_toArray, List.set_cons_zero, List.set_cons_succ]
      refine Rg.Upto.takeA (i := 13) (v := ?_) rfl (by kernel_rfl) (by kernel_rfl) (by kernel_rfl) (of_decide_eq_true (by kernel_rfl)) (fun _ _ _ h => h) (by rfl) (fun w5 hS5 => ?_) HSC ?_
      rotate_left
      · obtain ⟨hS1, hS2⟩ := hS5
        have q := (Hp.blk_cell hS1 0 rfl).1
        clear hS1 hS2
        go_simp
        try rfl
      try simp only [Act.put, List.setIfInBounds_toArray, List.set_cons_zero, List.set_cons_succ]
      refine Rg.Upto.takeA (i := 14) (v := .bool true) rfl (by kernel_rfl) (by kernel_rfl) (by kernel_rfl) (of_decide_eq_true (by kernel_rfl)) (fun _ _ _ h => h) (by rfl) (fun w5 hS5 => ?_) HSC ?_
      · clear hS5
        go_simp
        try simp only [beq_self_eq_true]
        try first | rfl | (rw [IntKind.wrap_i64]; unfold wrap64 at g0 g1 g2 g3 g4; omega)
      try simp only [Act.put, List.setIfInBounds_toArray, List.set_cons_zero, List.set_cons_succ]
      refine Rg.Upto.takeA (i := 15) (v := ?_) rfl (by kernel_rfl) (by kernel_rfl) (by kernel_rfl) (of_decide_eq_true (by kernel_rfl)) (fun _ _ _ h => h) (by rfl) (fun w5 hS5 => ?_) HSC ?_
      rotate_left
      · clear hS5
        go_simp
        try rfl
      try simp only [Act.put, List.setIfInBounds_toArray, List.set_cons_zero, List.set_cons_succ]
      refine Rg.Upto.takeA (i := 16) (v := ?_) rfl (by kernel_rfl) (by kernel_rfl) (by kernel_rfl) (of_decide_eq_true (by kernel_rfl)) (fun _ _ _ h => h) (by rfl) (fun w5 hS5 => ?_) HSC ?_
      rotate_left
      · clear hS5
        go_simp
        try rfl
      try simp only [Act.put, List.setIfInBounds_toArray, List.set_cons_zero, List.set_cons_succ]
      refine Rg.Upto.takeA (i := 17) (v := ?_) rfl (by kernel_rfl) (by kernel_rfl) (by kernel_rfl) (of_decide_eq_true (by kernel_rfl)) (fun _ _ _ h => h) (by rfl) (fun w5 hS5 => ?_) HSC ?_
      rotate_left
      · clear hS5
        go_simp
        try rfl
      try simp only [Act.put, List.setIfInBounds_toArray, List.set_cons_zero, List.set_cons_succ]
      refine Rg.Upto.takeA (i := 18) (v := ?_) rfl (by kernel_rfl) (by kernel_rfl) (by kernel_rfl) (of_decide_eq_true (by kernel_rfl)) (fun _ _ _ h => h) (by rfl) (fun w5 hS5 => ?_) HSC ?_
      rotate_left
      · clear hS5
        go_simp
        try rfl
      try simp only [Act.put, List.setIfInBounds_toArray, List.set_cons_zero, List.set_cons_succ]
      refine Rg.Upto.takeA (i := 19) (v := ?_) rfl (by kernel_rfl) (by kernel_rfl) (by kernel_rfl) (of_decide_eq_true (by kernel_rfl)) (fun _ _ _ h => h) (by rfl) (fun w5 hS5 => ?_) HSC ?_
      rotate_left
      · obtain ⟨hS1, hS2⟩ := hS5
        have q : w5.cell? ⟨adU.block, adU.off + 1, none⟩ = some (.int .u64 b1) := hS2 1 b1 rfl
        clear hS1 hS2
        go_simp
        try rfl
      try simp only [Act.put, List.setIfInBounds_toArray, List.set_cons_zero, List.set_cons_succ]
      refine Rg.Upto.takeA (i := 20) (v := .int .i64 b1) rfl (by kernel_rfl) (by kernel_rfl) (by kernel_rfl) (of_decide_eq_true (by kernel_rfl)) (fun _ _ _ h => h) (by rfl) (fun w5 hS5 => ?_) HSC ?_
      · clear hS5
        go_simp
        try simp only [beq_self_eq_true]
        try first | rfl | (rw [IntKind.wrap_i64]; unfold wrap64 at g0 g1 g2 g3 g4; omega)
      try simp only [Act.put, List.setIfInBounds_toArray, List.set_cons_zero, List.set_cons_succ]
      refine Rg.Upto.takeA (i := 21) (v := ?_) rfl (by kernel_rfl) (by kernel_rfl) (by kernel_rfl) (of_decide_eq_true (by kernel_rfl)) (fun _ _ _ h => h) (by rfl) (fun w5 hS5 => ?_) HSC ?_
      rotate_left
      · clear hS5
        go_simp
        try rfl
      try simp only [Act.put, List.setIfInBounds_toArray, List.set_cons_zero, List.set_cons_succ]
      refine Rg.Upto.takeA (i := 22) (v := ?_) rfl (by kernel_rfl) (by kernel_rfl) (by kernel_rfl) (of_decide_eq_true (by kernel_rfl)) (fun _ _ _ h => h) (by rfl) (fun w5 hS5 => ?_) HSC ?_
      rotate_left
      · obtain ⟨hS1, hS2⟩ := hS5
        have q := (Hp.blk_cell hS1 1 rfl).1
        clear hS1 hS2
        go_simp
        try rfl
      try simp only [Act.put, List.setIfInBounds_toArray, List.set_cons_zero, List.set_cons_succ]
      refine Rg.Upto.takeA (i := 23) (v := .bool true) rfl (by kernel_rfl) (by kernel_rfl) (by kernel_rfl) (of_decide_eq_true (by kernel_rfl)) (fun _ _ _ h => h) (by rfl) (fun w5 hS5 => ?_) HSC ?_
      · clear hS5
        go_simp
        try simp only [beq_self_eq_true]
        try first | rfl | (rw [IntKind.wrap_i64]; unfold wrap64 at g0 g1 g2 g3 g4; omega)
      try simp only [Act.put, List.setIfInBounds_toArray, List.set_cons_zero, List.set_cons_succ]
      refine Rg.Upto.takeA (i := 24) (v := ?_) rfl (by kernel_rfl) (by kernel_rfl) (by kernel_rfl) (of_decide_eq_true (by kernel_rfl)) (fun _ _ _ h => h) (by rfl) (fun w5 hS5 => ?_) HSC ?_
      rotate_left
      · clear hS5
        go_simp
        try rfl
      try simp only [Act.put, List.setIfInBounds_toArray, List.set_cons_zero, List.set_cons_succ]
      refine Rg.Upto.takeA (i := 25) (v := ?_) rfl (by kernel_rfl) (by kernel_rfl) (by kernel_rfl) (of_decide_eq_true (by kernel_rfl)) (fun _ _ _ h => h) (by rfl) (fun w5 hS5 => ?_) HSC ?_
      rotate_left
      · clear hS5
        go_simp
        try rfl
      try simp only [Act.put, List.setIfInBounds_toArray, List.set_cons_zero, List.set_cons_succ]
      refine Rg.Upto.takeA (i := 26) (v := ?_) rfl (by kernel_rfl) (by kernel_rfl) (by kernel_rfl) (of_decide_eq_true (by kernel_rfl)) (fun _ _ _ h => h) (by rfl) (fun w5 hS5 => ?_) HSC ?_
      rotate_left
      · clear hS5
        go_simp
        try rfl
      try simp only [Act.put, List.setIfInBounds_toArray, List.set_cons_zero, List.set_cons_succ]
      refine Rg.Upto.takeA (i := 27) (v := ?_) rfl (by kernel_rfl) (by kernel_rfl) (by kernel_rfl) (of_decide_eq_true (by kernel_rfl)) (fun _ _ _ h => h) (by rfl) (fun w5 hS5 => ?_) HSC ?_
      rotate_left
      · clear hS5
        go_simp
        try rfl
      try simp only [Act.put, List.setIfInBounds_toArray, List.set_cons_zero, List.set_cons_succ]
      refine Rg.Upto.takeA (i := 28) (v := ?_) rfl (by kernel_rfl) (by kernel_rfl) (by kernel_rfl) (of_decide_eq_true (by kernel_rfl)) (fun _ _ _ h => h) (by rfl) (fun w5 hS5 => ?_) HSC ?_
      rotate_left
      · obtain ⟨hS1, hS2⟩ := hS5
        have q : w5.cell? ⟨adU.block, adU.off + 2, none⟩ = some (.int .u64 b2) := hS2 2 b2 rfl
        clear hS1 hS2
        go_simp
        try rfl
      try simp only [Act.put, List.setIfInBounds_toArray, List.set_cons_zero, List.set_cons_succ]
      refine Rg.Upto.takeA (i := 29) (v := .int .i64 b2) rfl (by kernel_rfl) (by kernel_rfl) (by kernel_rfl) (of_decide_eq_true (by kernel_rfl)) (fun _ _ _ h => h) (by rfl) (fun w5 hS5 => ?_) HSC ?_
      · clear hS5
        go_simp
        try simp only [beq_self_eq_true]
        try first | rfl | (rw [IntKind.wrap_i64]; unfold wrap64 at g0 g1 g2 g3 g4; omega)
      try simp only [Act.put, List.setIfInBounds_toArray, List.set_cons_zero, List.set_cons_succ]
      refine Rg.Upto.takeA (i := 30) (v := ?_) rfl (by kernel_rfl) (by kernel_rfl) (by kernel_rfl) (of_decide_eq_true (by kernel_rfl)) (fun _ _ _ h => h) (by rfl) (fun w5 hS5 => ?_) HSC ?_
      rotate_left
      · clear hS5
        go_simp
        try rfl
      try simp only [Act.put, List.setIfInBounds_toArray, List.set_cons_zero, List.set_cons_succ]
      refine Rg.Upto.takeA (i := 31) (v := ?_) rfl (by kernel_rfl) (by kernel_rfl) (by kernel_rfl) (of_decide_eq_true (by kernel_rfl)) (fun _ _ _ h => h) (by rfl) (fun w5 hS5 => ?_) HSC ?_
      rotate_left
      · obtain ⟨hS1, hS2⟩ := hS5
        have q := (Hp.blk_cell hS1 2 rfl).1
        clear hS1 hS2
        go_simp
        try rfl
      try simp only [Act.put, List.setIfInBounds_toArray, List.set_cons_zero, List.set_cons_succ]
      refine Rg.Upto.takeA (i := 32) (v := .bool true) rfl (by kernel_rfl) (by kernel_rfl) (by kernel_rfl) (of_decide_eq_true (by kernel_rfl)) (fun _ _ _ h => h) (by rfl) (fun w5 hS5 => ?_) HSC ?_
      · clear hS5
        go_simp
        try simp only [beq_self_eq_true]
        try first | rfl | (rw [IntKind.wrap_i64]; unfold wrap64 at g0 g1 g2 g3 g4; omega)
      try simp only [Act.put, List.setIfInBounds_toArray, List.set_cons_zero, List.set_cons_succ]
      refine Rg.Upto.takeA (i := 33) (v := ?_) rfl (by kernel_rfl) (by kernel_rfl) (by kernel_rfl) (of_decide_eq_true (by kernel_rfl)) (fun _ _ _ h => h) (by rfl) (fun w5 hS5 => ?_) HSC ?_
      rotate_left
      · clear hS5
        go_simp
        try rfl
      try simp only [Act.put, List.setIfInBounds_toArray, List.set_cons_zero, List.set_cons_succ]
      refine Rg.Upto.takeA (i := 34) (v := ?_) rfl (by kernel_rfl) (by kernel_rfl) (by kernel_rfl) (of_decide_eq_true (by kernel_rfl)) (fun _ _ _ h => h) (by rfl) (fun w5 hS5 => ?_) HSC ?_
      rotate_left
      · clear hS5
        go_simp
        try rfl
      try simp only [Act.put, List.setIfInBounds_toArray, List.set_cons_zero, List.set_cons_succ]
      refine Rg.Upto.takeA (i := 35) (v := ?_) rfl (by kernel_rfl) (by kernel_rfl) (by kernel_rfl) (of_decide_eq_true (by kernel_rfl)) (fun _ _ _ h => h) (by rfl) (fun w5 hS5 => ?_) HSC ?_
      rotate_left
      · clear hS5
        go_simp
        try rfl
      try simp only [Act.put, List.setIfInBounds_toArray, List.set_cons_zero, List.set_cons_succ]
      refine Rg.Upto.takeA (i := 36) (v := ?_) rfl (by kernel_rfl) (by kernel_rfl) (by kernel_rfl) (of_decide_eq_true (by kernel_rfl)) (fun _ _ _ h => h) (by rfl) (fun w5 hS5 => ?_) HSC ?_
      rotate_left
      · clear hS5
        go_simp
        try rfl
      try simp only [Act.put, List.setIfInBounds_toArray, List.set_cons_zero, List.set_cons_succ]
      refine Rg.Upto.takeA (i := 37) (v := ?_) rfl (by kernel_rfl) (by kernel_rfl) (by kernel_rfl) (of_decide_eq_true (by kernel_rfl)) (fun _ _ _ h => h) (by rfl) (fun w5 hS5 => ?_) HSC ?_
      rotate_left
      · obtain ⟨hS1, hS2⟩ := hS5
        have q : w5.cell? ⟨adU.block, adU.off + 3, none⟩ = some (.int .u64 b3) := hS2 3 b3 rfl
        clear hS1 hS2
        go_simp
        try rfl
      try simp only [Act.put, List.setIfInBounds_toArray, List.set_cons_zero, List.set_cons_succ]
      refine Rg.Upto.takeA (i := 38) (v := .int .i64 b3) rfl (by kernel_rfl) (by kernel_rfl) (by kernel_rfl) (of_decide_eq_true (by kernel_rfl)) (fun _ _ _ h => h) (by rfl) (fun w5 hS5 => ?_) HSC ?_
      · clear hS5
        go_simp
        try simp only [beq_self_eq_true]
        try first | rfl | (rw [IntKind.wrap_i64]; unfold wrap64 at g0 g1 g2 g3 g4; omega)
      try simp only [Act.put, List.setIfInBounds_toArray, List.set_cons_zero, List.set_cons_succ]
      refine Rg.Upto.takeA (i := 39) (v := ?_) rfl (by kernel_rfl) (by kernel_rfl) (by kernel_rfl) (of_decide_eq_true (by kernel_rfl)) (fun _ _ _ h => h) (by rfl) (fun w5 hS5 => ?_) HSC ?_
      rotate_left
      · clear hS5
        go_simp
        try rfl
      try simp only [Act.put, List.setIfInBounds_toArray, List.set_cons_zero, List.set_cons_succ]
      refine Rg.Upto.takeA (i := 40) (v := ?_) rfl (by kernel_rfl) (by kernel_rfl) (by kernel_rfl) (of_decide_eq_true (by kernel_rfl)) (fun _ _ _ h => h) (by rfl) (fun w5 hS5 => ?_) HSC ?_
      rotate_left
      · obtain ⟨hS1, hS2⟩ := hS5
        have q := (Hp.blk_cell hS1 3 rfl).1
        clear hS1 hS2
        go_simp
        try rfl
      try simp only [Act.put, List.setIfInBounds_toArray, List.set_cons_zero, List.set_cons_succ]
      refine Rg.Upto.takeA (i := 41) (v := .bool true) rfl (by kernel_rfl) (by kernel_rfl) (by kernel_rfl) (of_decide_eq_true (by kernel_rfl)) (fun _ _ _ h => h) (by rfl) (fun w5 hS5 => ?_) HSC ?_
      · clear hS5
        go_simp
        try simp only [beq_self_eq_true]
        try first | rfl | (rw [IntKind.wrap_i64]; unfold wrap64 at g0 g1 g2 g3 g4; omega)
      try simp only [Act.put, List.setIfInBounds_toArray, List.set_cons_zero, List.set_cons_succ]
      refine Rg.Upto.takeA (i := 42) (v := ?_) rfl (by kernel_rfl) (by kernel_rfl) (by kernel_rfl) (of_decide_eq_true (by kernel_rfl)) (fun _ _ _ h => h) (by rfl) (fun w5 hS5 => ?_) HSC ?_
      rotate_left
      · clear hS5
        go_simp
        try rfl
      try simp only [Act.put, List.setIfInBounds_toArray, List.set_cons_zero, List.set_cons_succ]
      refine Rg.Upto.takeA (i := 43) (v := ?_) rfl (by kernel_rfl) (by kernel_rfl) (by kernel_rfl) (of_decide_eq_true (by kernel_rfl)) (fun _ _ _ h => h) (by rfl) (fun w5 hS5 => ?_) HSC ?_
      rotate_left
      · clear hS5
        go_simp
        try rfl
      try simp only [Act.put, List.setIfInBounds_toArray, List.set_cons_zero, List.set_cons_succ]
      refine Rg.Upto.takeA (i := 44) (v := ?_) rfl (by kernel_rfl) (by kernel_rfl) (by kernel_rfl) (of_decide_eq_true (by kernel_rfl)) (fun _ _ _ h => h) (by rfl) (fun w5 hS5 => ?_) HSC ?_
      rotate_left
      · clear hS5
        go_simp
        try rfl
      try simp only [Act.put, List.setIfInBounds_toArray, List.set_cons_zero, List.set_cons_succ]
      refine Rg.Upto.takeA (i := 45) (v := ?_) rfl (by kernel_rfl) (by kernel_rfl) (by kernel_rfl) (of_decide_eq_true (by kernel_rfl)) (fun _ _ _ h => h) (by rfl) (fun w5 hS5 => ?_) HSC ?_
      rotate_left
      · clear hS5
        go_simp
        try rfl
      try simp only [Act.put, List.setIfInBounds_toArray, List.set_cons_zero, List.set_cons_succ]
      refine Rg.Upto.takeA (i := 46) (v := ?_) rfl (by kernel_rfl) (by kernel_rfl) (by kernel_rfl) (of_decide_eq_true (by kernel_rfl)) (fun _ _ _ h => h) (by rfl) (fun w5 hS5 => ?_) HSC ?_
      rotate_left
      · obtain ⟨hS1, hS2⟩ := hS5
        have q : w5.cell? ⟨adU.block, adU.off + 4, none⟩ = some (.int .u64 0) := hS2 4 0 rfl
        clear hS1 hS2
        go_simp
        try rfl
      try simp only [Act.put, List.setIfInBounds_toArray, List.set_cons_zero, List.set_cons_succ]
      refine Rg.Upto.takeA (i := 47) (v := .bool true) rfl (by kernel_rfl) (by kernel_rfl) (by kernel_rfl) (of_decide_eq_true (by kernel_rfl)) (fun _ _ _ h => h) (by rfl) (fun w5 hS5 => ?_) HSC ?_
      · clear hS5
        go_simp
        try simp only [beq_self_eq_true]
        try first | rfl | (rw [IntKind.wrap_i64]; unfold wrap64 at g0 g1 g2 g3 g4; omega)
      try simp only [Act.put, List.setIfInBounds_toArray, List.set_cons_zero, List.set_cons_succ]
      refine Rg.Upto.takeA (i := 48) (v := ?_) rfl (by kernel_rfl) (by kernel_rfl) (by kernel_rfl) (of_decide_eq_true (by kernel_rfl)) (fun _ _ _ h => h) (by rfl) (fun w5 hS5 => ?_) HSC ?_
      rotate_left
      · clear hS5
        go_simp
        try rfl
      try simp only [Act.put, List.setIfInBounds_toArray, List.set_cons_zero, List.set_cons_succ]
      refine Rg.Upto.takeA (i := 49) (v := ?_) rfl (by kernel_rfl) (by kernel_rfl) (by kernel_rfl) (of_decide_eq_true (by kernel_rfl)) (fun _ _ _ h => h) (by rfl) (fun w5 hS5 => ?_) HSC ?_
      rotate_left
      · clear hS5
        go_simp
        try rfl
      try simp only [Act.put, List.setIfInBounds_toArray, List.set_cons_zero, List.set_cons_succ]
      refine Rg.Upto.takeA (i := 50) (v := ?_) rfl (by kernel_rfl) (by kernel_rfl) (by kernel_rfl) (of_decide_eq_true (by kernel_rfl)) (fun _ _ _ h => h) (by rfl) (fun w5 hS5 => ?_) HSC ?_
      rotate_left
      · clear hS5
        go_simp
        try rfl
      try simp only [Act.put, List.setIfInBounds_toArray, List.set_cons_zero, List.set_cons_succ]
      refine Rg.Upto.takeA (i := 51) (v := ?_) rfl (by kernel_rfl) (by kernel_rfl) (by kernel_rfl) (of_decide_eq_true (by kernel_rfl)) (fun _ _ _ h => h) (by rfl) (fun w5 hS5 => ?_) HSC ?_
      rotate_left
      · clear hS5
        go_simp
        try rfl
      try simp only [Act.put, List.setIfInBounds_toArray, List.set_cons_zero, List.set_cons_succ]
      refine Rg.Upto.takeA (i := 52) (v := ?_) rfl (by kernel_rfl) (by kernel_rfl) (by kernel_rfl) (of_decide_eq_true (by kernel_rfl)) (fun _ _ _ h => h) (by rfl) (fun w5 hS5 => ?_) HSC ?_
      rotate_left
      · obtain ⟨hS1, hS2⟩ := hS5
        have q : w5.cell? ⟨adU.block, adU.off + 5, none⟩ = some (.int .u64 b4) := hS2 5 b4 rfl
        clear hS1 hS2
        go_simp
        try rfl
      try simp only [Act.put, List.setIfInBounds_toArray, List.set_cons_zero, List.set_cons_succ]
      refine Rg.Upto.takeA (i := 53) (v := .int .i64 b4) rfl (by kernel_rfl) (by kernel_rfl) (by kernel_rfl) (of_decide_eq_true (by kernel_rfl)) (fun _ _ _ h => h) (by rfl) (fun w5 hS5 => ?_) HSC ?_
      · clear hS5
        go_simp
        try simp only [beq_self_eq_true]
        try first | rfl | (rw [IntKind.wrap_i64]; unfold wrap64 at g0 g1 g2 g3 g4; omega)
      try simp only [Act.put, List.setIfInBounds_toArray, List.set_cons_zero, List.set_cons_succ]
      refine Rg.Upto.takeA (i := 54) (v := ?_) rfl (by kernel_rfl) (by kernel_rfl) (by kernel_rfl) (of_decide_eq_true (by kernel_rfl)) (fun _ _ _ h => h) (by rfl) (fun w5 hS5 => ?_) HSC ?_
      rotate_left
      · clear hS5
        go_simp
        try rfl
      try simp only [Act.put, List.setIfInBounds_toArray, List.set_cons_zero, List.set_cons_succ]
      refine Rg.Upto.takeA (i := 55) (v := ?_) rfl (by kernel_rfl) (by kernel_rfl) (by kernel_rfl) (of_decide_eq_true (by kernel_rfl)) (fun _ _ _ h => h) (by rfl) (fun w5 hS5 => ?_) HSC ?_
      rotate_left
      · obtain ⟨hS1, hS2⟩ := hS5
        have q := (Hp.blk_cell hS1 4 rfl).1
        clear hS1 hS2
        go_simp
        try rfl
      try simp only [Act.put, List.setIfInBounds_toArray, List.set_cons_zero, List.set_cons_succ]
      refine Rg.Upto.takeA (i := 56) (v := .bool true) rfl (by kernel_rfl) (by kernel_rfl) (by kernel_rfl) (of_decide_eq_true (by kernel_rfl)) (fun _ _ _ h => h) (by rfl) (fun w5 hS5 => ?_) HSC ?_
      · clear hS5
        go_simp
        try simp only [beq_self_eq_true]
        try first | rfl | (rw [IntKind.wrap_i64]; unfold wrap64 at g0 g1 g2 g3 g4; omega)
      try simp only [Act.put, List.setIfInBounds_toArray, List.set_cons_zero, List.set_cons_succ]
      refine Rg.Upto.takeA (i := 57) (v := ?_) rfl (by kernel_rfl) (by kernel_rfl) (by kernel_rfl) (of_decide_eq_true (by kernel_rfl)) (fun _ _ _ h => h) (by rfl) (fun w5 hS5 => ?_) HSC ?_
      rotate_left
      · clear hS5
        go_simp
        try rfl
      try simp only [Act.put, List.setIfInBounds_toArray, List.set_cons_zero, List.set_cons_succ]
      refine Rg.Upto.takeA (i := 58) (v := ?_) rfl (by kernel_rfl) (by kernel_rfl) (by kernel_rfl) (of_decide_eq_true (by kernel_rfl)) (fun _ _ _ h => h) (by rfl) (fun w5 hS5 => ?_) HSC ?_
      rotate_left
      · clear hS5
        go_simp
        try rfl
      try simp only [Act.put, List.setIfInBounds_toArray, List.set_cons_zero, List.set_cons_succ]
      refine Rg.Upto.done (by kernel_rfl) ?_
      clear HSC
      go_wp2_with (fail)
      go_ret
      exact ⟨rfl, HB.out.drew⟩
theorem fewer {P : Program} {f : FuncId} {args : Array Value} {w : World} {e0 : Ending} (h : Calls P f args w fun e w' => e = e0 ∧ Drawn0 w w') : Calls P f args w fun e w' => e = e0 ∧ Below w.heap.size w w' := h.mono fun e w' h => ⟨h.1, h.2.below⟩
theorem head_part (a0 a1 a2 n : Int) : ∃ V e q X d0 d1 d2 dl cx ce : Int, (∀ w, Calls Try.prog 4 #[.agg #[.int .i64 a0, .int .i64 a1, .int .i64 a2]] w fun e' w' => e' = .returned (.tuple #[.int .u64 V, .int .i64 e]) ∧ Below w.heap.size w w') ∧
      (e = 0 → ∀ w, Calls Try.prog 5 #[.int .u64 V, .int .i64 0, .int .i64 8] w fun e w' => e = .returned (.tuple #[.int .u64 a1, .int .i64 0]) ∧ Below w.heap.size w w') ∧
      (e = 0 → ∀ w, Calls Try.prog 5 #[.int .u64 V, .int .i64 8, .int .i64 8] w fun e w' => e = .returned (.tuple #[.int .u64 a0, .int .i64 0]) ∧ Below w.heap.size w w') ∧
      (e = 0 → ∀ w, Calls Try.prog 5 #[.int .u64 V, .int .i64 16, .int .i64 8] w fun e w' => e = .returned (.tuple #[.int .u64 a2, .int .i64 0]) ∧ Below w.heap.size w w') ∧
      (e = 0 → wrap64 a0 = a0 ∧ wrap64 a1 = a1 ∧ wrap64 a2 = a2) ∧
      (wrap64 (Int.tmod (IntKind.u64.wrap n) 256) = q) ∧
      (IntKind.u64.wrap q = q) ∧
      (e = 0 → ∀ w, Calls Try.prog 6 #[.int .u64 V, .int .i64 16, .int .i64 8, .int .u64 q] w fun e w' => e = .returned (.tuple #[.int .u64 X, .int .i64 0]) ∧ Below w.heap.size w w') ∧
      (e = 0 → ∀ w, Calls Try.prog 7 #[.int .u64 X] w fun e w' => e = .returned (.tuple #[.agg #[.int .i64 d0, .int .i64 d1, .int .i64 d2], .int .i64 dl]) ∧ Below w.heap.size w w') ∧
      (e = 0 → ∀ w, Calls Try.prog 4 #[.agg #[.int .i64 a0, .int .i64 a1, .int .i64 q]] w fun e w' => e = .returned (.tuple #[.int .u64 cx, .int .i64 ce]) ∧ Below w.heap.size w w') ∧
      (e = 0 → (dl = 0 ∧ ce = 0 ∧ d2 = q ∧ cx = X) ∨ (dl ≠ 0 ∧ ce ≠ 0)) := by
  obtain ⟨q, hq, eq⟩ : ∃ q : Int, (0 ≤ q ∧ q < 256) ∧ wrap64 (Int.tmod (IntKind.u64.wrap n) 256) = q := by
    have hx : 0 ≤ IntKind.u64.wrap n := (W_wrap n).1
    rw [tm hx]
    exact ⟨_, ⟨by omega, by omega⟩, w64 (by omega) (by omega)⟩
  by_cases h : headP a0 a1 a2
  · have hW := headW_W h
    have hb : 0 ≤ a0 ∧ a0 < 256 ∧ 0 ≤ a1 ∧ a1 < 256 ∧ 0 ≤ a2 ∧ a2 < 256 := by unfold headP at h; omega
    have g1 : word_Get.f (headW a0 a1 a2) 0 8 = some (a1, 0) := by
      refine (get_lit (p := 1) (q := 256) hW 0 8 rfl rfl rfl rfl (by omega) (by omega)).trans ?_
      rw [show headW a0 a1 a2 / 1 % 256 = a1 by unfold headW; omega]
    have g2 : word_Get.f (headW a0 a1 a2) 8 8 = some (a0, 0) := by
      refine (get_lit (p := 256) (q := 256) hW 8 8 rfl rfl rfl rfl (by omega) (by omega)).trans ?_
      rw [show headW a0 a1 a2 / 256 % 256 = a0 by unfold headW; omega]
    have g3 : word_Get.f (headW a0 a1 a2) 16 8 = some (a2, 0) := by
      refine (get_lit (p := 65536) (q := 256) hW 16 8 rfl rfl rfl rfl (by omega) (by omega)).trans ?_
      rw [show headW a0 a1 a2 / 65536 % 256 = a2 by unfold headW; omega]
    have hWq : W (headW a0 a1 q) := by unfold headW W; omega
    have d1 : headW a0 a1 q / 256 % 256 = a0 := by unfold headW; omega
    have d2 : headW a0 a1 q % 256 = a1 := by unfold headW; omega
    have d3 : headW a0 a1 q / 65536 % 256 = q := by unfold headW; omega
    have hd := decHead_eq 7 hWq
    rw [d1, d2, d3] at hd
    have W1 : ∀ w, Calls Try.prog 4 #[.agg #[.int .i64 a0, .int .i64 a1, .int .i64 a2]] w fun e' w' => e' = .returned (.tuple #[.int .u64 (headW a0 a1 a2), .int .i64 0]) ∧ Below w.heap.size w w' := fun w => header_EncodeHead.calls 1 a0 a1 a2 _ 0 w (by rw [encHead_eq 0, if_pos h])
    have W2 := fun w => fewer (word_Get.calls _ 0 8 _ _ w g1)
    have W3 := fun w => fewer (word_Get.calls _ 8 8 _ _ w g2)
    have W4 := fun w => fewer (word_Get.calls _ 16 8 _ _ w g3)
    have W5 := fun w => fewer (word_Put.calls _ 16 8 q _ _ w (put_len h hq))
    by_cases hh : headP a0 a1 q
    · rw [if_pos ⟨hh, rfl⟩] at hd
      exact ⟨headW a0 a1 a2, 0, q, headW a0 a1 q, a0, a1, q, 0, headW a0 a1 q, 0, W1, fun _ => W2, fun _ => W3, fun _ => W4, fun _ => ⟨w64 (by omega) (by omega), w64 (by omega) (by omega), w64 (by omega) (by omega)⟩, eq, u64i hq.1 (by omega), fun _ => W5, fun _ w => header_DecodeHead.calls 8 _ _ _ _ _ w hd, fun _ w => header_EncodeHead.calls 1 a0 a1 q _ _ w (by rw [encHead_eq 0, if_pos hh]), fun _ => .inl ⟨rfl, rfl, rfl, rfl⟩⟩
    · rw [if_neg (fun z => hh z.1)] at hd
      exact ⟨headW a0 a1 a2, 0, q, headW a0 a1 q, 0, 0, 0, 4, 0, 4, W1, fun _ => W2, fun _ => W3, fun _ => W4, fun _ => ⟨w64 (by omega) (by omega), w64 (by omega) (by omega), w64 (by omega) (by omega)⟩, eq, u64i hq.1 (by omega), fun _ => W5, fun _ w => header_DecodeHead.calls 8 _ _ _ _ _ w hd, fun _ w => header_EncodeHead.calls 1 a0 a1 q _ _ w (by rw [encHead_eq 0, if_neg hh]), fun _ => .inr ⟨by decide, by decide⟩⟩
  · have no : ∀ {p : Prop}, (4 : Int) = 0 → p := fun z => absurd z (by decide)
    exact ⟨0, 4, q, 0, 0, 0, 0, 4, 0, 4, fun w => header_EncodeHead.calls 1 a0 a1 a2 _ 4 w (by rw [encHead_eq 0, if_neg h]), fun z => no z, fun z => no z, fun z => no z, fun z => no z, eq, u64i hq.1 (by omega), fun z => no z, fun z => no z, fun z => no z, fun z => no z⟩
theorem entry_part (b0 b1 b2 b3 b4 : Int) : ∃ V4 e4 : Int, (∀ w, Calls Try.prog 8 #[.agg #[.int .i64 b0, .int .i64 b1, .int .i64 b2, .int .i64 b3, .int .i64 b4]] w fun e w' => e = .returned (.tuple #[.int .u64 V4, .int .i64 e4]) ∧ Below w.heap.size w w') ∧
      ((e4 ≠ 0 ∧ V4 = 0) ∨ e4 = 0) ∧
      (e4 = 0 → wrap64 b0 = b0 ∧ wrap64 b1 = b1 ∧ wrap64 b2 = b2 ∧ wrap64 b3 = b3 ∧ wrap64 b4 = b4) ∧
      (e4 = 0 → ∀ w B c, Kd.C (Kd.int .i64) w (some ⟨B, 0, none⟩) 6 [2, 4, 2, 4, 4, 32] → 6 ≤ c → Calls Try.prog 9 #[.int .u64 V4, .slice (some ⟨B, 0, none⟩) 6 c] w fun e w' => ∃ v, e = .returned (.tuple #[v, .int .i64 0]) ∧ (∃ A cap, v = .slice A 6 cap ∧ Kd.C (Kd.int .u64) w' A 6 [b0, b1, b2, b3, 0, b4]) ∧ Below w.heap.size w w') := by
  by_cases h : entryP b0 b1 b2 b3 b4
  · have hb : 0 ≤ b0 ∧ b0 < 4 ∧ 0 ≤ b1 ∧ b1 < 16 ∧ 0 ≤ b2 ∧ b2 < 4 ∧ 0 ≤ b3 ∧ b3 < 16 ∧ 0 ≤ b4 ∧ b4 < 4294967296 := by unfold entryP at h; omega
    have hW : W (entryW b0 b1 b2 b3 b4) := by unfold entryW W; omega
    have v0 : entryW b0 b1 b2 b3 b4 / 1 % 4 = b0 := by unfold entryW; omega
    have v1 : entryW b0 b1 b2 b3 b4 / 4 % 16 = b1 := by unfold entryW; omega
    have v2 : entryW b0 b1 b2 b3 b4 / 64 % 4 = b2 := by unfold entryW; omega
    have v3 : entryW b0 b1 b2 b3 b4 / 256 % 16 = b3 := by unfold entryW; omega
    have v4 : entryW b0 b1 b2 b3 b4 / 4096 % 16 = 0 := by unfold entryW; omega
    have v5 : entryW b0 b1 b2 b3 b4 / 65536 % 4294967296 = b4 := by unfold entryW; omega
    have hu := unpack6 0 hW
    rw [v0, v1, v2, v3, v4, v5] at hu
    refine ⟨entryW b0 b1 b2 b3 b4, 0, fun w => header_EncodeEntry.calls 7 b0 b1 b2 b3 b4 _ 0 w (by rw [encEntry_eq 0, if_pos h]), .inr rfl, fun _ => ⟨w64 (by omega) (by omega), w64 (by omega) (by omega), w64 (by omega) (by omega), w64 (by omega) (by omega), w64 (by omega) (by omega)⟩, fun _ w B c hC hc => ?_⟩
    refine (word_Unpack.calls _ _ (some ⟨B, 0, none⟩) c ws _ _ w hC hc hu).mono ?_
    rintro e w' ⟨v, rfl, hR, hb⟩
    obtain ⟨A, cap, rfl, _, hCC⟩ := Kd.R_reads hR
    exact ⟨_, rfl, ⟨A, cap, rfl, hCC⟩, hb⟩
  · exact ⟨0, 4, fun w => header_EncodeEntry.calls 7 b0 b1 b2 b3 b4 _ 4 w (by rw [encEntry_eq 0, if_neg h]), .inl ⟨by decide, rfl⟩, fun z => absurd z (by decide), fun z => absurd z (by decide)⟩
theorem heads_law (a0 a1 a2 b0 b1 b2 b3 b4 n : Int) (w : World) :
    Calls Try.prog 3 #[.agg #[.int .i64 a0, .int .i64 a1, .int .i64 a2], .agg #[.int .i64 b0, .int .i64 b1, .int .i64 b2, .int .i64 b3, .int .i64 b4], .int .i64 n] w fun e w' => e = .returned (.bool true) ∧ Below w.heap.size w w' := by
  obtain ⟨V, e, q, X, d0, d1, d2, dl, cx, ce, H1, G1, G2, G3, hw, hq, hq2, G4, G5, G6, hp⟩ := head_part a0 a1 a2 n
  obtain ⟨V4, e4, H7, h7, h8, G8⟩ := entry_part b0 b1 b2 b3 b4
  have h0 : Go.bits .and .u64 (headW 0 2 5) 255 = 2 := by
    have eW : headW 0 2 5 = 11889503016258437122 := by unfold headW; omega
    rw [eW]
    have := and_mask (x := 11889503016258437122) (by unfold W; omega) (n := 8) (by omega)
    rw [show (2 : Int) ^ 8 - 1 = 255 by rfl, show (2 : Int) ^ 8 = 256 by rfl] at this
    rw [this]; omega
  exact heads a0 a1 a2 b0 b1 b2 b3 b4 n (headW 0 2 5) V e V4 e4 q X d0 d1 d2 dl cx ce [] w (fun w => header_EncodeHead.calls 1 0 2 5 _ 0 w (by rw [encHead_eq 0, if_pos (by unfold headP; omega)])) h0 H1 G1 G2 G3 hw hq hq2 G4 G5 G6 hp H7 h7 h8 G8

end Go.Proofs.Ytddkockeeodklaa.Th

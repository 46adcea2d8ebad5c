/- ClassesMakes. -/
import Derived.Test.YteankgbcmfkfnaaPc
import Derived.Test.YteankgbcmfkfnaaCd
import Derived.Test.YteankgbcmfkfnaaCls
namespace Go.Proofs.Yteankgbcmfkfnaa.Cl
open Go Go.RowKit Go.Proofs.Yteankgbcmfkfnaa.Hp Go.Proofs.Yteankgbcmfkfnaa.PH
open Go.Proofs.YteankgbcmfkfnaaW.PrintWords (bt Kd)
open Go.Proofs.YteankgbcmfkfnaaW.PrintWords.Kd (C_below R_reads R_lower)
set_option linter.unusedVariables false
set_option linter.unusedSimpArgs false

theorem at34 {w : World} {A : Option Addr} {n : Nat} {xs : List S34} (h : Kd.C k34 w A n xs) (k : Nat) (hk : k < n) : ∃ ad A1 c1, A = some ad ∧ w.cell? (ad.add (k * 2)) = some (.string (rd_T34 xs k).f0) ∧ w.cell? ⟨(ad.add (k * 2)).block, (ad.add (k * 2)).off + 1, none⟩ = some (.slice A1 (rd_T34 xs k).f1.length c1) ∧ (rd_T34 xs k).f1.length ≤ c1 ∧ Kd.C k41 w A1 (rd_T34 xs k).f1.length (rd_T34 xs k).f1 := by
  obtain ⟨ad, A1, c1, hA, r0, r1, h2, h3⟩ := at_T34 h (k : Int) (by omega) (by omega)
  rw [Int.toNat_natCast] at r0 r1
  exact ⟨ad, A1, c1, hA, r0, r1, h2, h3⟩
theorem check_ok {A : Option Addr} {cp : Nat} {l : List S34} {w : World} (hr : Kd.C k34 w A l.length l) (hc : l.length ≤ cp) (hE : newE l = (0, 0)) : Calls Try.prog 12 #[.slice A l.length cp] w fun e w' => e = .returned (.tuple #[.int .i64 0, .int .i64 0]) ∧ Below w.heap.size w w' := by
  have := check_call A cp l w hr hc
  rw [hE] at this
  exact this
set_option maxHeartbeats 8000000 in
set_option maxRecDepth 100000 in
theorem makes_law (A : Option Addr) (cp : Nat) (l : List S34) (w : World) (hr : Kd.C k34 w A l.length l) (hc : l.length ≤ cp) :
    Calls Try.prog 4 #[.slice A l.length cp] w fun e w' => e = .returned (.bool true) ∧ Below w.heap.size w w' := by
  have HR := Lib.hid hr
  have HC := Lib.hid hc
  have HB := Lib.hid (Below.refl w.heap.size w)
  clear hr hc
  by_cases h0 : (newE l).2 = 0
  · obtain ⟨hE, h16, h15⟩ := newE_ok h0
    have H15 := Lib.hid h15
    have H16 := Lib.hid h16
    have HN := Lib.hid (new_yes HR.out HC.out h0)
    have HE := Lib.hid hE
    clear h15 h16 h0 hE
    go_enter Try.func4, Try.ntmps4
    go_upto_region 2 with (first
      | (go_at_call 11; go_loud ((with_reducible refine HN.out.mono ?_); rintro e w1 ⟨t, AT, Am, ca, cm, rfl, hT, hb⟩; (have HT := Lib.hid hT); (replace HB := Lib.hid (HB.out.trans (hb.mono HB.out.size))); clear hT hb HN)))
    go_upto_region 3 with (first
      | (go_at_call 12; go_loud ((with_reducible refine (check_ok (C_below HR.out HB.out) HC.out HE.out).mono ?_); rintro e w2 ⟨rfl, hb⟩; (replace HB := Lib.hid (HB.out.trans (hb.mono HB.out.size)); replace HT := Lib.hid (HT.out.below hb)); clear hb)))
    go_upto_if 57 with (first
      | (go_at_call 8; go_loud ((with_reducible refine (classed _).mono ?_); rintro e w3 ⟨rfl, hb⟩; (replace HB := Lib.hid (HB.out.trans (hb.mono HB.out.size)); replace HT := Lib.hid (HT.out.below hb)); clear hb))
      | (go_at_call 13; go_loud ((with_reducible refine (count_call HT.out).mono ?_); rintro e w4 ⟨rfl, hw⟩; obtain rfl := hw.symm)))
    go_wp2_with (fail)
    go_loopw [8] (fun v8 wr => ∃ k : Nat, k ≤ l.length ∧ v8 = .int .i64 k ∧ Hid (IsT wr t l (l.map fun x => fieldsM x.f1) AT Am ca cm) ∧ Hid (Below w.heap.size w wr)) (fun v8 _ => l.length - (intOf v8).toNat)
    case atStart => exact ⟨0, Nat.zero_le _, rfl, HT, HB⟩
    case round =>
      clear HT HB HE
      obtain ⟨k, hk, rfl, HT, HB⟩ := hrel
      have h16 := H16.out
      by_cases hkl : k < l.length
      · have h15 := H15.out _ (rd34_mem l k hkl)
        have HCY := Lib.hid (class_yes HT.out k hkl h15)
        go_upto_region 11 with (first
          | (go_at_call 14; go_loud ((with_reducible refine HCY.out.mono ?_); rintro e w5 ⟨v9, rfl, hR, hb⟩; (obtain ⟨A9, c9, h9, hle9, hC9⟩ := R_reads hR); subst h9; (have HR9 := Lib.hid hC9); (have HLE := Lib.hid hle9); (replace HB := Lib.hid (HB.out.trans (hb.mono HB.out.size)); replace HT := Lib.hid (HT.out.below hb)); clear hR hb hC9 hle9 HCY)))
        obtain ⟨cb, hcb⟩ : ∃ cb, cb = w5.heap.size := ⟨_, rfl⟩
        have hbn : Below w5.heap.size w5 (w5.alloc (.cells #[.string (rd_T34 l k).f0, .slice A9 (rd_T34 l k).f1.length c9] 34)) := (Below.refl _ w5).alloc (Nat.le_refl _) _
        have HBK := Lib.hid (Hp.blk_new w5 (.cells #[.string (rd_T34 l k).f0, .slice A9 (rd_T34 l k).f1.length c9] 34))
        replace HR9 := Lib.hid (C_below HR9.out hbn)
        replace HT := Lib.hid (HT.out.below hbn)
        replace HB := Lib.hid (HB.out.trans (hbn.mono HB.out.size))
        clear hbn
        generalize (w5.alloc (.cells #[.string (rd_T34 l k).f0, .slice A9 (rd_T34 l k).f1.length c9] 34)) = w6 at HBK HR9 HT HB ⊢
        simp only [← hcb] at HBK ⊢
        clear hcb
        obtain ⟨ad, A1, c1, hA, r0, r1, hle1, hC1⟩ := at34 (C_below HR.out HB.out) k hkl
        have HR1 := Lib.hid hC1
        have HLE1 := Lib.hid hle1
        clear hC1 hle1
        subst hA
        obtain ⟨x, hx⟩ : ∃ x, x = rd_T34 l (k : Int) := ⟨_, rfl⟩
        rw [← hx] at HBK HR9 HLE r0 r1 HR1 HLE1 h15
        clear hx
        obtain ⟨f0, f1⟩ := x
        simp only at HBK HR9 HLE r0 r1 HR1 HLE1 h15
        obtain ⟨n, hn⟩ : ∃ n, n = f1.length := ⟨_, rfl⟩
        have HSC7 := Lib.hid (sc_call (w := w6.drew) (s0 := f0) (s1 := f0) h15 HR9.out HLE.out HR1.out HLE1.out)
        rw [← hn] at HBK r1 HSC7
        replace HT := Lib.hid (HT.out.below (w' := w6.drew) ⟨rfl, rfl, rfl, Nat.le_refl _, fun _ _ => rfl⟩)
        replace HB := Lib.hid HB.out.drew
        clear hn HR9 HLE HR1 HLE1 h15
        refine Rg.Upto.start (fun w' => w'.heap[cb]? = some (.cells #[.string f0, .slice A9 n c9] 34 (0, 0)) ∧ w'.cell? (ad.add (k * 2)) = some (.string f0) ∧ w'.cell? ⟨(ad.add (k * 2)).block, (ad.add (k * 2)).off + 1, none⟩ = some (.slice A1 n c1)) 1000 (by kernel_rfl) ⟨HBK.out, r0, r1⟩ (fun HSC => ?_)
        refine Rg.Upto.takeA (i := 0) (v := ?_) rfl (by kernel_rfl) (by kernel_rfl) (by kernel_rfl) (of_decide_eq_true (by kernel_rfl)) (fun _ _ _ h => h) (by rfl) (fun w5 hS5 => ?_) HSC ?_
        rotate_left
        · obtain ⟨h1, h2, h3⟩ := hS5
          clear h1
          go_simp
          try rfl
        try simp only [Act.put, List.setIfInBounds_toArray, List.set_cons_zero, List.set_cons_succ]
        refine Rg.Upto.takeA (i := 1) (v := ?_) rfl (by kernel_rfl) (by kernel_rfl) (by kernel_rfl) (of_decide_eq_true (by kernel_rfl)) (fun _ _ _ h => h) (by rfl) (fun w5 hS5 => ?_) HSC ?_
        rotate_left
        · obtain ⟨h1, h2, h3⟩ := hS5
          clear h1
          go_simp
          try rfl
        try simp only [Act.put, List.setIfInBounds_toArray, List.set_cons_zero, List.set_cons_succ]
        refine Rg.Upto.takeA (i := 2) (v := ?_) rfl (by kernel_rfl) (by kernel_rfl) (by kernel_rfl) (of_decide_eq_true (by kernel_rfl)) (fun _ _ _ h => h) (by rfl) (fun w5 hS5 => ?_) HSC ?_
        rotate_left
        · obtain ⟨h1, h2, h3⟩ := hS5
          clear h1
          go_simp
          try rfl
        try simp only [Act.put, List.setIfInBounds_toArray, List.set_cons_zero, List.set_cons_succ]
        refine Rg.Upto.takeA (i := 3) (v := ?_) rfl (by kernel_rfl) (by kernel_rfl) (by kernel_rfl) (of_decide_eq_true (by kernel_rfl)) (fun _ _ _ h => h) (by rfl) (fun w5 hS5 => ?_) HSC ?_
        rotate_left
        · obtain ⟨h1, h2, h3⟩ := hS5
          have q0 := (Hp.blk_cell h1 0 rfl).1
          have q1 := (Hp.blk_cell h1 1 rfl).1
          clear h1
          go_simp
          try rfl
        try simp only [Act.put, List.setIfInBounds_toArray, List.set_cons_zero, List.set_cons_succ]
        refine Rg.Upto.takeA (i := 4) (v := ?_) rfl (by kernel_rfl) (by kernel_rfl) (by kernel_rfl) (of_decide_eq_true (by kernel_rfl)) (fun _ _ _ h => h) (by rfl) (fun w5 hS5 => ?_) HSC ?_
        rotate_left
        · obtain ⟨h1, h2, h3⟩ := hS5
          clear h1
          go_simp
          try rfl
        try simp only [Act.put, List.setIfInBounds_toArray, List.set_cons_zero, List.set_cons_succ]
        refine Rg.Upto.takeA (i := 5) (v := ?_) rfl (by kernel_rfl) (by kernel_rfl) (by kernel_rfl) (of_decide_eq_true (by kernel_rfl)) (fun _ _ _ h => h) (by rfl) (fun w5 hS5 => ?_) HSC ?_
        rotate_left
        · obtain ⟨h1, h2, h3⟩ := hS5
          clear h1
          go_simp
          try rfl
        try simp only [Act.put, List.setIfInBounds_toArray, List.set_cons_zero, List.set_cons_succ]
        refine Rg.Upto.takeA (i := 6) (v := ?_) rfl (by kernel_rfl) (by kernel_rfl) (by kernel_rfl) (of_decide_eq_true (by kernel_rfl)) (fun _ _ _ h => h) (by rfl) (fun w5 hS5 => ?_) HSC ?_
        rotate_left
        · obtain ⟨h1, h2, h3⟩ := hS5
          clear h1
          go_simp
          try rfl
        try simp only [Act.put, List.setIfInBounds_toArray, List.set_cons_zero, List.set_cons_succ]
        refine Rg.Upto.takeA (i := 7) (v := ?_) rfl (by kernel_rfl) (by kernel_rfl) (by kernel_rfl) (of_decide_eq_true (by kernel_rfl)) (fun _ _ _ h => h) (by rfl) (fun w5 hS5 => ?_) HSC ?_
        rotate_left
        · obtain ⟨h1, h2, h3⟩ := hS5
          clear h1
          go_simp
          try rfl
        try simp only [Act.put, List.setIfInBounds_toArray, List.set_cons_zero, List.set_cons_succ]
        refine Rg.Upto.one (i := 8) rfl (by kernel_rfl) (by rfl) (fun KK hK => ?_)
        go_simp
        (with_reducible refine HSC7.out.mono ?_)
        rintro e w7 ⟨rfl, hb⟩
        have HSC3 : (w7.heap[cb]? = some (.cells #[.string f0, .slice A9 n c9] 34 (0, 0)) ∧ w7.cell? (ad.add (k * 2)) = some (.string f0) ∧ w7.cell? ⟨(ad.add (k * 2)).block, (ad.add (k * 2)).off + 1, none⟩ = some (.slice A1 n c1)) := ⟨(hb.block _ (blk_lt HSC.1)).trans HSC.1, (hb.cell (World.block_lt_of_cell? _ _ HSC.2.1)).trans HSC.2.1, (hb.cell (World.block_lt_of_cell? _ _ HSC.2.2)).trans HSC.2.2⟩
        rw [scB_refl]
        refine hK.out _ _ HSC3 ?_
        clear hK KK HSC
        have HSC := HSC3
        (replace HB := Lib.hid (HB.out.trans (hb.mono HB.out.size)); replace HT := Lib.hid (HT.out.below hb))
        clear hb HSC3
        try simp only [Act.put, List.setIfInBounds_toArray, List.set_cons_zero, List.set_cons_succ]
        refine Rg.Upto.takeA (i := 9) (v := ?_) rfl (by kernel_rfl) (by kernel_rfl) (by kernel_rfl) (of_decide_eq_true (by kernel_rfl)) (fun _ _ _ h => h) (by rfl) (fun w5 hS5 => ?_) HSC ?_
        rotate_left
        · obtain ⟨h1, h2, h3⟩ := hS5
          clear h1
          go_simp
          try rfl
        try simp only [Act.put, List.setIfInBounds_toArray, List.set_cons_zero, List.set_cons_succ]
        refine Rg.Upto.takeA (i := 10) (v := ?_) rfl (by kernel_rfl) (by kernel_rfl) (by kernel_rfl) (of_decide_eq_true (by kernel_rfl)) (fun _ _ _ h => h) (by rfl) (fun w5 hS5 => ?_) HSC ?_
        rotate_left
        · obtain ⟨h1, h2, h3⟩ := hS5
          clear h1
          go_simp
          try rfl
        try simp only [Act.put, List.setIfInBounds_toArray, List.set_cons_zero, List.set_cons_succ]
        clear HSC
        refine Rg.Upto.done (by kernel_rfl) ?_
        go_wp2_with (fail)
        go_roundw
        case rel => exact ⟨k + 1, by omega, by go_num, HT, HB⟩
        case measure => simp [intOf]; omega
      · obtain rfl : k = l.length := by omega
        have HC1 := Lib.hid (class_no HT.out (l.length : Int) (by omega))
        go_upto_region 14 with (first
          | (go_at_call 14; go_loud ((with_reducible refine HC1.out.mono ?_); rintro e w5 ⟨rfl, hb⟩; (replace HB := Lib.hid (HB.out.trans (hb.mono HB.out.size)); replace HT := Lib.hid (HT.out.below hb)); clear hb HC1)))
        have HC2 := Lib.hid (class_no HT.out (-1 : Int) (by omega))
        go_wp2_with (first
          | (go_at_call 14; go_loud ((with_reducible refine HC2.out.mono ?_); rintro e w6 ⟨rfl, hb⟩; (replace HB := Lib.hid (HB.out.trans (hb.mono HB.out.size)); replace HT := Lib.hid (HT.out.below hb)); clear hb HC2)))
        go_ret
        exact ⟨by first | rfl | trivial, HB.out.alloc HB.out.size _⟩
  · have HN := Lib.hid (new_no HR.out HC.out h0)
    have HK := Lib.hid (fun w1 (hb : Below w.heap.size w w1) => check_call A cp l w1 (C_below HR.out hb) HC.out)
    obtain ⟨⟨r1, r2⟩, hne⟩ : ∃ r, r = newE l := ⟨_, rfl⟩
    rw [← hne] at HN HK h0
    clear hne HR HC
    have hb0 : (r2 != 0) = true := by simpa using h0
    have hb1 : (r2 == r2) = true := by simp
    clear h0
    go_enter Try.func4, Try.ntmps4
    go_wp2_with (first
      | (go_at_call 11; go_loud ((with_reducible refine HN.out.mono ?_); rintro e w1 ⟨rfl, hb⟩; (replace HB := Lib.hid (HB.out.trans (hb.mono HB.out.size))); clear hb HN))
      | (go_at_call 12; go_loud ((with_reducible refine (HK.out _ HB.out).mono ?_); rintro e w2 ⟨rfl, hb⟩; (replace HB := Lib.hid (HB.out.trans (hb.mono HB.out.size))); clear hb HK))
      | (go_at_call 8; go_loud ((with_reducible refine (classed _).mono ?_); rintro e w3 ⟨rfl, hb⟩; (replace HB := Lib.hid (HB.out.trans (hb.mono HB.out.size))); clear hb)))
    go_ret
    exact ⟨by simp, HB.out⟩
end Go.Proofs.Yteankgbcmfkfnaa.Cl

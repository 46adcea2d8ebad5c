/- ClassesFinds. -/
import Derived.Test.YteankgbcmfkfnaaFi
namespace Go.Proofs.Yteankgbcmfkfnaa.Cl
open Go Go.RowKit Go.Proofs.Yteankgbcmfkfnaa.Hp Go.Proofs.Yteankgbcmfkfnaa.PH
open Go.Proofs.YteankgbcmfkfnaaW.PrintWords Go.Proofs.YteankgbcmfkfnaaW.PrintLast Go.Proofs.YteankgbcmfkfnaaW.PrintMore
open Go.Proofs.YteankgbcmfkfnaaW.PrintWords.Kd (C_below R_reads R_lower)
set_option linter.unusedVariables false
set_option linter.unusedSimpArgs false

theorem eqA45 (d : Nat) (w : World) (x0 y0 : Int) (x1 y1 : Int) (x2 y2 : Int) :
    (Op.equalIn (d + 2) 45 (.agg #[.int .i64 x0, .int .i64 x1, .int .i64 x2]) (.agg #[.int .i64 y0, .int .i64 y1, .int .i64 y2])).run Try.prog w = .ok (x0 == y0 && (x1 == y1 && (x2 == y2))) w := by
  refine eqA_of Try.underlying45 (by kernel_rfl) ?_
  refine eqf_cons (by rfl) (by go_simp; rfl) (by go_simp; rfl) (by go_simp) ?_
  refine eqf_cons (by rfl) (by go_simp; rfl) (by go_simp; rfl) (by go_simp) ?_
  exact eqf_last (by rfl) (by go_simp; rfl) (by go_simp; rfl) (by go_simp)
set_option maxHeartbeats 2000000 in
set_option maxRecDepth 100000 in
theorem head_no {w : World} {t : Nat} {L : List S34} {M : List Int} {A Am : Option Addr} {ca cm : Nat} (h : IsT w t L M A Am ca cm) (c : Int) (hc : ¬ (0 ≤ c ∧ c < (L.length : Int))) :
    Calls Try.prog 25 #[.pointer (some ⟨t, 0, none⟩), .int .i64 c] w fun e w' => e = .returned (.tuple #[.agg #[.int .i64 0, .int .i64 0, .int .i64 0], .int .i64 21]) ∧ Below w.heap.size w w' := by
  have hb0 : Below w.heap.size w (w.alloc (.cells #[.int .i64 0, .int .i64 0, .int .i64 0] 45)) := (Below.refl _ w).alloc (Nat.le_refl _) _
  have HT := Lib.hid (h.below hb0)
  have KB := Lib.hid (Hp.blk_new w (.cells #[.int .i64 0, .int .i64 0, .int .i64 0] 45))
  have HB := Lib.hid hb0
  obtain ⟨q0, g0⟩ := Hp.blk_cell KB.out 0 rfl
  obtain ⟨q1, g1⟩ := Hp.blk_cell KB.out 1 rfl
  obtain ⟨q2, g2⟩ := Hp.blk_cell KB.out 2 rfl
  have HK := Lib.hid (known_eq HT.out c false (decide_eq_false hc))
  clear h hb0 hc
  go_enter Try.func25, Try.ntmps25
  go_wp2_with (first
    | (go_at_call 31; go_loud ((with_reducible refine HK.out.mono ?_); rintro e w9 ⟨rfl, hw⟩; obtain rfl := hw.symm)))
  refine bodyPost_ret (Go.Proofs.YteankgbcmfkfnaaW.PrintWords.results_ct (fn := Try.f25) (p := 4) (u := 5) (ty := 45) rfl _ _ w.heap.size 45 #[.int .i64 0, .int .i64 0, .int .i64 0] (0, 0) _ ?hp (Hp.blk_new _ _) Try.underlying45 ?hd ?hi) rfl ?_
  case hp => rfl
  case hd => rfl
  case hi => kernel_rfl
  exact ⟨rfl, (Below.refl _ w).alloc (Nat.le_refl _) _⟩
attribute [local go_sem high] eqA45
set_option maxHeartbeats 8000000 in
set_option maxRecDepth 100000 in
theorem finds_law (A : Option Addr) (cp : Nat) (l : List S34) (s : ByteArray) (c f : Int) (w : World) (hr : Kd.C k34 w A l.length l) (hc : l.length ≤ cp) :
    Calls Try.prog 7 #[.agg #[.slice A l.length cp, .string s, .int .i64 c, .int .i64 f]] w fun e w' => e = .returned (.bool true) ∧ Below w.heap.size w w' := by
  have HR := Lib.hid hr
  have HC := Lib.hid hc
  have HB0 : Below w.heap.size w (w.alloc (.cells #[.slice A l.length cp, .string s, .int .i64 c, .int .i64 f] 49)).drew := ((Below.refl w.heap.size w).alloc (Nat.le_refl _) _).drew
  have HB := Lib.hid HB0
  have KB : Hid ((w.alloc (.cells #[.slice A l.length cp, .string s, .int .i64 c, .int .i64 f] 49)).drew.heap[w.heap.size]? = some (.cells #[.slice A l.length cp, .string s, .int .i64 c, .int .i64 f] 49 (0, 0))) := Lib.hid (Hp.blk_new w (.cells #[.slice A l.length cp, .string s, .int .i64 c, .int .i64 f] 49))
  clear hr hc HB0
  by_cases h0 : (newE l).2 = 0
  · obtain ⟨hE, h16, h15⟩ := newE_ok h0
    have H15 := Lib.hid h15
    have H16 := Lib.hid h16
    have HN := Lib.hid (new_yes (C_below HR.out HB.out) HC.out h0)
    clear h15 h16 h0 hE
    go_enter Try.func7, Try.ntmps7
    go_upto_region 1 with (fail)
    refine Rg.Upto.start (fun w' => w'.heap[w.heap.size]? = some (.cells #[.slice A l.length cp, .string s, .int .i64 c, .int .i64 f] 49 (0, 0))) 1000 (by kernel_rfl) KB.out (fun HSC => ?_)
    refine Rg.Upto.takeA (i := 0) (v := ?_) rfl (by kernel_rfl) (by kernel_rfl) (by kernel_rfl) (of_decide_eq_true (by kernel_rfl)) (fun _ _ _ h => h) (by rfl) (fun w5 hS5 => ?_) HSC ?_
    rotate_left
    · have b0 := (Hp.blk_cell hS5 0 rfl).1
      have b1 := (Hp.blk_cell hS5 1 rfl).1
      have b2 := (Hp.blk_cell hS5 2 rfl).1
      have b3 := (Hp.blk_cell hS5 3 rfl).1
      clear hS5
      go_simp
      try rfl
    try simp only [Act.put, List.setIfInBounds_toArray, List.set_cons_zero, List.set_cons_succ]
    refine Rg.Upto.takeA (i := 1) (v := ?_) rfl (by kernel_rfl) (by kernel_rfl) (by kernel_rfl) (of_decide_eq_true (by kernel_rfl)) (fun _ _ _ h => h) (by rfl) (fun w5 hS5 => ?_) HSC ?_
    rotate_left
    · have b0 := (Hp.blk_cell hS5 0 rfl).1
      have b1 := (Hp.blk_cell hS5 1 rfl).1
      have b2 := (Hp.blk_cell hS5 2 rfl).1
      have b3 := (Hp.blk_cell hS5 3 rfl).1
      clear hS5
      go_simp
      try rfl
    try simp only [Act.put, List.setIfInBounds_toArray, List.set_cons_zero, List.set_cons_succ]
    refine Rg.Upto.takeA (i := 2) (v := ?_) rfl (by kernel_rfl) (by kernel_rfl) (by kernel_rfl) (of_decide_eq_true (by kernel_rfl)) (fun _ _ _ h => h) (by rfl) (fun w5 hS5 => ?_) HSC ?_
    rotate_left
    · have b0 := (Hp.blk_cell hS5 0 rfl).1
      have b1 := (Hp.blk_cell hS5 1 rfl).1
      have b2 := (Hp.blk_cell hS5 2 rfl).1
      have b3 := (Hp.blk_cell hS5 3 rfl).1
      clear hS5
      go_simp
      try rfl
    try simp only [Act.put, List.setIfInBounds_toArray, List.set_cons_zero, List.set_cons_succ]
    refine Rg.Upto.takeA (i := 3) (v := ?_) rfl (by kernel_rfl) (by kernel_rfl) (by kernel_rfl) (of_decide_eq_true (by kernel_rfl)) (fun _ _ _ h => h) (by rfl) (fun w5 hS5 => ?_) HSC ?_
    rotate_left
    · have b0 := (Hp.blk_cell hS5 0 rfl).1
      have b1 := (Hp.blk_cell hS5 1 rfl).1
      have b2 := (Hp.blk_cell hS5 2 rfl).1
      have b3 := (Hp.blk_cell hS5 3 rfl).1
      clear hS5
      go_simp
      try rfl
    try simp only [Act.put, List.setIfInBounds_toArray, List.set_cons_zero, List.set_cons_succ]
    refine Rg.Upto.takeA (i := 4) (v := ?_) rfl (by kernel_rfl) (by kernel_rfl) (by kernel_rfl) (of_decide_eq_true (by kernel_rfl)) (fun _ _ _ h => h) (by rfl) (fun w5 hS5 => ?_) HSC ?_
    rotate_left
    · have b0 := (Hp.blk_cell hS5 0 rfl).1
      have b1 := (Hp.blk_cell hS5 1 rfl).1
      have b2 := (Hp.blk_cell hS5 2 rfl).1
      have b3 := (Hp.blk_cell hS5 3 rfl).1
      clear hS5
      go_simp
      try rfl
    try simp only [Act.put, List.setIfInBounds_toArray, List.set_cons_zero, List.set_cons_succ]
    refine Rg.Upto.takeA (i := 5) (v := ?_) rfl (by kernel_rfl) (by kernel_rfl) (by kernel_rfl) (of_decide_eq_true (by kernel_rfl)) (fun _ _ _ h => h) (by rfl) (fun w5 hS5 => ?_) HSC ?_
    rotate_left
    · have b0 := (Hp.blk_cell hS5 0 rfl).1
      have b1 := (Hp.blk_cell hS5 1 rfl).1
      have b2 := (Hp.blk_cell hS5 2 rfl).1
      have b3 := (Hp.blk_cell hS5 3 rfl).1
      clear hS5
      go_simp
      try rfl
    try simp only [Act.put, List.setIfInBounds_toArray, List.set_cons_zero, List.set_cons_succ]
    refine Rg.Upto.takeA (i := 6) (v := ?_) rfl (by kernel_rfl) (by kernel_rfl) (by kernel_rfl) (of_decide_eq_true (by kernel_rfl)) (fun _ _ _ h => h) (by rfl) (fun w5 hS5 => ?_) HSC ?_
    rotate_left
    · have b0 := (Hp.blk_cell hS5 0 rfl).1
      have b1 := (Hp.blk_cell hS5 1 rfl).1
      have b2 := (Hp.blk_cell hS5 2 rfl).1
      have b3 := (Hp.blk_cell hS5 3 rfl).1
      clear hS5
      go_simp
      try rfl
    try simp only [Act.put, List.setIfInBounds_toArray, List.set_cons_zero, List.set_cons_succ]
    refine Rg.Upto.takeA (i := 7) (v := ?_) rfl (by kernel_rfl) (by kernel_rfl) (by kernel_rfl) (of_decide_eq_true (by kernel_rfl)) (fun _ _ _ h => h) (by rfl) (fun w5 hS5 => ?_) HSC ?_
    rotate_left
    · have b0 := (Hp.blk_cell hS5 0 rfl).1
      have b1 := (Hp.blk_cell hS5 1 rfl).1
      have b2 := (Hp.blk_cell hS5 2 rfl).1
      have b3 := (Hp.blk_cell hS5 3 rfl).1
      clear hS5
      go_simp
      try rfl
    try simp only [Act.put, List.setIfInBounds_toArray, List.set_cons_zero, List.set_cons_succ]
    refine Rg.Upto.takeA (i := 8) (v := ?_) rfl (by kernel_rfl) (by kernel_rfl) (by kernel_rfl) (of_decide_eq_true (by kernel_rfl)) (fun _ _ _ h => h) (by rfl) (fun w5 hS5 => ?_) HSC ?_
    rotate_left
    · have b0 := (Hp.blk_cell hS5 0 rfl).1
      have b1 := (Hp.blk_cell hS5 1 rfl).1
      have b2 := (Hp.blk_cell hS5 2 rfl).1
      have b3 := (Hp.blk_cell hS5 3 rfl).1
      clear hS5
      go_simp
      try rfl
    try simp only [Act.put, List.setIfInBounds_toArray, List.set_cons_zero, List.set_cons_succ]
    refine Rg.Upto.takeA (i := 9) (v := ?_) rfl (by kernel_rfl) (by kernel_rfl) (by kernel_rfl) (of_decide_eq_true (by kernel_rfl)) (fun _ _ _ h => h) (by rfl) (fun w5 hS5 => ?_) HSC ?_
    rotate_left
    · have b0 := (Hp.blk_cell hS5 0 rfl).1
      have b1 := (Hp.blk_cell hS5 1 rfl).1
      have b2 := (Hp.blk_cell hS5 2 rfl).1
      have b3 := (Hp.blk_cell hS5 3 rfl).1
      clear hS5
      go_simp
      try rfl
    try simp only [Act.put, List.setIfInBounds_toArray, List.set_cons_zero, List.set_cons_succ]
    refine Rg.Upto.takeA (i := 10) (v := ?_) rfl (by kernel_rfl) (by kernel_rfl) (by kernel_rfl) (of_decide_eq_true (by kernel_rfl)) (fun _ _ _ h => h) (by rfl) (fun w5 hS5 => ?_) HSC ?_
    rotate_left
    · have b0 := (Hp.blk_cell hS5 0 rfl).1
      have b1 := (Hp.blk_cell hS5 1 rfl).1
      have b2 := (Hp.blk_cell hS5 2 rfl).1
      have b3 := (Hp.blk_cell hS5 3 rfl).1
      clear hS5
      go_simp
      try rfl
    try simp only [Act.put, List.setIfInBounds_toArray, List.set_cons_zero, List.set_cons_succ]
    refine Rg.Upto.takeA (i := 11) (v := ?_) rfl (by kernel_rfl) (by kernel_rfl) (by kernel_rfl) (of_decide_eq_true (by kernel_rfl)) (fun _ _ _ h => h) (by rfl) (fun w5 hS5 => ?_) HSC ?_
    rotate_left
    · have b0 := (Hp.blk_cell hS5 0 rfl).1
      have b1 := (Hp.blk_cell hS5 1 rfl).1
      have b2 := (Hp.blk_cell hS5 2 rfl).1
      have b3 := (Hp.blk_cell hS5 3 rfl).1
      clear hS5
      go_simp
      try rfl
    try simp only [Act.put, List.setIfInBounds_toArray, List.set_cons_zero, List.set_cons_succ]
    clear HSC
    refine Rg.Upto.done (by kernel_rfl) ?_
    clear KB
    generalize (w.alloc (.cells #[.slice A l.length cp, .string s, .int .i64 c, .int .i64 f] 49)).drew = w0 at HB HN ⊢
    go_upto_region 3 with (first
      | (go_at_call 11; go_loud ((with_reducible refine HN.out.mono ?_); rintro e w1 ⟨t, AT, Am, ca, cm, rfl, hT, hb⟩; (have HT := Lib.hid hT); (replace HB := Lib.hid (HB.out.trans (hb.mono HB.out.size))); clear hT hb HN)))
    go_upto_region 6 with (first
      | (go_at_call 19; go_loud ((with_reducible refine (find_call HT.out s).mono ?_); rintro e w2 ⟨rfl, hb⟩; (replace HB := Lib.hid (HB.out.trans (hb.mono HB.out.size))); (replace HT := Lib.hid (HT.out.below hb)); clear hb)))
    go_upto_region 7 with (first
      | (go_at_call 20; go_loud ((with_reducible refine (rfind_call A cp l s _ (C_below HR.out HB.out) HC.out H16.out).mono ?_); rintro e w3 ⟨rfl, hb⟩; (replace HB := Lib.hid (HB.out.trans (hb.mono HB.out.size))); (replace HT := Lib.hid (HT.out.below hb)); clear hb)))
    go_upto_region 8 with (first
      | (go_at_call 21; go_loud ((with_reducible refine (field_call HT.out c s H15.out).mono ?_); rintro e w4 ⟨rfl, hb⟩; (replace HB := Lib.hid (HB.out.trans (hb.mono HB.out.size))); (replace HT := Lib.hid (HT.out.below hb)); clear hb)))
    go_upto_region 9 with (first
      | (go_at_call 22; go_loud ((with_reducible refine (rfield_call A cp l c s _ (C_below HR.out HB.out) HC.out H15.out).mono ?_); rintro e w5 ⟨rfl, hb⟩; (replace HB := Lib.hid (HB.out.trans (hb.mono HB.out.size))); (replace HT := Lib.hid (HT.out.below hb)); clear hb)))
    go_upto_region 10 with (first
      | (go_at_call 23; go_loud ((with_reducible refine (type_call HT.out c f).mono ?_); rintro e w6 ⟨rfl, hb⟩; (replace HB := Lib.hid (HB.out.trans (hb.mono HB.out.size))); (replace HT := Lib.hid (HT.out.below hb)); clear hb)))
    go_upto_region 11 with (first
      | (go_at_call 24; go_loud ((with_reducible refine (rtype_call A cp l c f _ (C_below HR.out HB.out) HC.out).mono ?_); rintro e w7 ⟨rfl, hb⟩; (replace HB := Lib.hid (HB.out.trans (hb.mono HB.out.size))); (replace HT := Lib.hid (HT.out.below hb)); clear hb)))
    generalize fdC 0 l (nk s) = rf at *
    generalize fieldA l c s = rd at *
    generalize typeA l c f = rt at *
    obtain ⟨rf1, rf2⟩ := rf
    obtain ⟨rd1, rd2⟩ := rd
    obtain ⟨rt1, rt2⟩ := rt
    by_cases hcl : 0 ≤ c ∧ c < (l.length : Int)
    · obtain ⟨n, rfl⟩ : ∃ n : Nat, c = n := ⟨c.toNat, by omega⟩
      have hn : n < l.length := by omega
      have HH := Lib.hid (head_yes HT.out n hn)
      go_upto_region 12 with (first
        | (go_at_call 25; go_loud ((with_reducible refine HH.out.mono ?_); rintro e w8 ⟨rfl, hb⟩; (replace HB := Lib.hid (HB.out.trans (hb.mono HB.out.size))); (replace HT := Lib.hid (HT.out.below hb)); clear hb HH)))
      have hb0 : Below w8.heap.size w8 (w8.alloc (.cells #[.int .i64 n, .int .i64 1, .int .i64 (rd_T34 l n).f1.length] 45)) := (Below.refl _ w8).alloc (Nat.le_refl _) _
      have KH := Lib.hid (Hp.blk_new w8 (.cells #[.int .i64 n, .int .i64 1, .int .i64 (rd_T34 l n).f1.length] 45))
      replace HT := Lib.hid (HT.out.below hb0)
      replace HB := Lib.hid (HB.out.trans (hb0.mono HB.out.size))
      clear hb0
      obtain ⟨bh, hbh⟩ : ∃ bh, bh = w8.heap.size := ⟨_, rfl⟩
      generalize (w8.alloc (.cells #[.int .i64 n, .int .i64 1, .int .i64 (rd_T34 l n).f1.length] 45)) = w9 at KH HT HB ⊢
      simp only [← hbh] at KH ⊢
      clear hbh
      go_upto_region 14 with (fail)
      have hlt : bh ≠ w9.heap.size := Nat.ne_of_lt (Hp.blk_lt KH.out)
      have HBw := HB.out.size
      have hb0 : Below w9.heap.size w9 (w9.alloc (.cells #[.int .i64 0, .int .i64 0, .int .i64 0] 45)) := (Below.refl _ w9).alloc (Nat.le_refl _) _
      have KZ := Lib.hid (Hp.blk_new w9 (.cells #[.int .i64 0, .int .i64 0, .int .i64 0] 45))
      replace KH := Lib.hid (Hp.blk_alloc KH.out (.cells #[.int .i64 0, .int .i64 0, .int .i64 0] 45))
      replace HT := Lib.hid (HT.out.below hb0)
      replace HB := Lib.hid (HB.out.trans (hb0.mono HB.out.size))
      clear hb0
      have hz : bh ≠ w9.heap.size ∧ w.heap.size ≤ w9.heap.size := ⟨hlt, HBw⟩
      obtain ⟨bz, hbz⟩ : ∃ bz, bz = w9.heap.size := ⟨_, rfl⟩
      generalize (w9.alloc (.cells #[.int .i64 0, .int .i64 0, .int .i64 0] 45)) = w10 at KH KZ HT HB ⊢
      simp only [← hbz] at KZ hz ⊢
      clear hbz
      obtain ⟨ad, A1, c1, hA, r0, r1, hle1, hC1⟩ := at34 (C_below HR.out HB.out) n hn
      subst hA
      clear r0 hle1 hC1
      generalize (rd_T34 l n).f1.length = ln at KH r1 ⊢
      have k1 := Hp.blk_set KZ.out 0 (.int .i64 n)
      have k2 := Hp.blk_set k1 1 (.int .i64 1)
      have k3 := Hp.blk_set k2 2 (.int .i64 ln)
      have KW : Hid ((((w10.setCell ⟨bz, 0, none⟩ (.int .i64 n)).setCell ⟨bz, 1, none⟩ (.int .i64 1)).setCell ⟨bz, 2, none⟩ (.int .i64 ln)).heap[bz]? = some (.cells #[.int .i64 n, .int .i64 1, .int .i64 ln] 45 (0, 0))) := Lib.hid k3
      have KH2 : Hid ((((w10.setCell ⟨bz, 0, none⟩ (.int .i64 n)).setCell ⟨bz, 1, none⟩ (.int .i64 1)).setCell ⟨bz, 2, none⟩ (.int .i64 ln)).heap[bh]? = some (.cells #[.int .i64 n, .int .i64 1, .int .i64 ln] 45 (0, 0))) := Lib.hid (Hp.blk_far (Hp.blk_far (Hp.blk_far KH.out _ hz.1 _) _ hz.1 _) _ hz.1 _)
      have HB2 : Hid (Below w.heap.size w (((w10.setCell ⟨bz, 0, none⟩ (.int .i64 n)).setCell ⟨bz, 1, none⟩ (.int .i64 1)).setCell ⟨bz, 2, none⟩ (.int .i64 ln))) := Lib.hid (by
        have hF1 : Fr (fun k => k = bz) w10 (w10.setCell ⟨bz, 0, none⟩ (.int .i64 n)) := (Fr.refl _ w10).setCell _ _ (.inl rfl)
        have hF2 : Fr (fun k => k = bz) w10 ((w10.setCell ⟨bz, 0, none⟩ (.int .i64 n)).setCell ⟨bz, 1, none⟩ (.int .i64 1)) := hF1.setCell _ _ (.inl rfl)
        have hF3 : Fr (fun k => k = bz) w10 (((w10.setCell ⟨bz, 0, none⟩ (.int .i64 n)).setCell ⟨bz, 1, none⟩ (.int .i64 1)).setCell ⟨bz, 2, none⟩ (.int .i64 ln)) := hF2.setCell _ _ (.inl rfl)
        exact Fr.toBelow HB.out HB.out.size hF3 (fun k hk => by rw [hk]; exact hz.2))
      obtain ⟨z0, y0⟩ := Hp.blk_cell KZ.out 0 rfl
      obtain ⟨z1, y1⟩ := Hp.blk_cell KZ.out 1 rfl
      obtain ⟨z2, y2⟩ := Hp.blk_cell KZ.out 2 rfl
      obtain ⟨z11, y11⟩ := Hp.blk_cell k1 1 rfl
      obtain ⟨z12, y12⟩ := Hp.blk_cell k1 2 rfl
      obtain ⟨z22, y22⟩ := Hp.blk_cell k2 2 rfl
      clear k1 k2 k3 HT HB KH KZ
      go_upto_region 16 with (fail)
      clear z0 z1 z2 y0 y1 y2 z11 y11 z12 y12 z22 y22 r1
      generalize (((w10.setCell ⟨bz, 0, none⟩ (.int .i64 n)).setCell ⟨bz, 1, none⟩ (.int .i64 1)).setCell ⟨bz, 2, none⟩ (.int .i64 ln)) = w11 at KW KH2 HB2 ⊢
      go_wp2_with (first
        | (go_at_call 8; go_loud ((with_reducible refine (classed _).mono ?_); rintro e w12 ⟨rfl, hb⟩; (have KW2 := (hb.block _ (Hp.blk_lt KW.out)).trans KW.out); (have KH3 := (hb.block _ (Hp.blk_lt KH2.out)).trans KH2.out); (obtain ⟨z0, -⟩ := Hp.blk_cell KW2 0 rfl); (obtain ⟨z1, -⟩ := Hp.blk_cell KW2 1 rfl); (obtain ⟨z2, -⟩ := Hp.blk_cell KW2 2 rfl); (obtain ⟨y0, -⟩ := Hp.blk_cell KH3 0 rfl); (obtain ⟨y1, -⟩ := Hp.blk_cell KH3 1 rfl); (obtain ⟨y2, -⟩ := Hp.blk_cell KH3 2 rfl); (have HB3 := Lib.hid (HB2.out.trans (hb.mono HB2.out.size))); clear hb KW2 KH3 KW KH2 HB2)))
      go_ret
      exact ⟨by first | rfl | simp, HB3.out⟩
    · have HH := Lib.hid (head_no HT.out c hcl)
      go_upto_region 12 with (first
        | (go_at_call 25; go_loud ((with_reducible refine HH.out.mono ?_); rintro e w8 ⟨rfl, hb⟩; (replace HB := Lib.hid (HB.out.trans (hb.mono HB.out.size))); (replace HT := Lib.hid (HT.out.below hb)); clear hb HH)))
      have hb0 : Below w8.heap.size w8 (w8.alloc (.cells #[.int .i64 0, .int .i64 0, .int .i64 0] 45)) := (Below.refl _ w8).alloc (Nat.le_refl _) _
      have KH := Lib.hid (Hp.blk_new w8 (.cells #[.int .i64 0, .int .i64 0, .int .i64 0] 45))
      replace HT := Lib.hid (HT.out.below hb0)
      replace HB := Lib.hid (HB.out.trans (hb0.mono HB.out.size))
      clear hb0
      obtain ⟨bh, hbh⟩ : ∃ bh, bh = w8.heap.size := ⟨_, rfl⟩
      generalize (w8.alloc (.cells #[.int .i64 0, .int .i64 0, .int .i64 0] 45)) = w9 at KH HT HB ⊢
      simp only [← hbh] at KH ⊢
      clear hbh
      by_cases hc0 : 0 ≤ c
      · have hc1 : ¬ (c < (l.length : Int)) := fun z => hcl ⟨hc0, z⟩
        have bb0 : decide (0 ≤ c) = true := decide_eq_true hc0
        have bb1 : decide (c < (l.length : Int)) = false := decide_eq_false hc1
        clear hc0 hc1 hcl
        go_upto_region 14 with (fail)
        have hb0 : Below w9.heap.size w9 (w9.alloc (.cells #[.int .i64 0, .int .i64 0, .int .i64 0] 45)) := (Below.refl _ w9).alloc (Nat.le_refl _) _
        have KZ := Lib.hid (Hp.blk_new w9 (.cells #[.int .i64 0, .int .i64 0, .int .i64 0] 45))
        replace KH := Lib.hid (Hp.blk_alloc KH.out (.cells #[.int .i64 0, .int .i64 0, .int .i64 0] 45))
        replace HB := Lib.hid (HB.out.trans (hb0.mono HB.out.size))
        clear hb0 HT
        obtain ⟨bz, hbz⟩ : ∃ bz, bz = w9.heap.size := ⟨_, rfl⟩
        generalize (w9.alloc (.cells #[.int .i64 0, .int .i64 0, .int .i64 0] 45)) = w10 at KH KZ HB ⊢
        simp only [← hbz] at KZ ⊢
        clear hbz
        go_wp2_with (first
          | (go_at_call 8; go_loud ((with_reducible refine (classed _).mono ?_); rintro e w12 ⟨rfl, hb⟩; (have KW2 := (hb.block _ (Hp.blk_lt KZ.out)).trans KZ.out); (have KH3 := (hb.block _ (Hp.blk_lt KH.out)).trans KH.out); (obtain ⟨z0, -⟩ := Hp.blk_cell KW2 0 rfl); (obtain ⟨z1, -⟩ := Hp.blk_cell KW2 1 rfl); (obtain ⟨z2, -⟩ := Hp.blk_cell KW2 2 rfl); (obtain ⟨y0, -⟩ := Hp.blk_cell KH3 0 rfl); (obtain ⟨y1, -⟩ := Hp.blk_cell KH3 1 rfl); (obtain ⟨y2, -⟩ := Hp.blk_cell KH3 2 rfl); (have HB3 := Lib.hid (HB.out.trans (hb.mono HB.out.size))); clear hb KW2 KH3 KZ KH HB)))
        go_ret
        exact ⟨by first | rfl | simp, HB3.out⟩
      · have bb0 : decide (0 ≤ c) = false := decide_eq_false hc0
        clear hc0 hcl
        go_upto_region 14 with (fail)
        have hb0 : Below w9.heap.size w9 (w9.alloc (.cells #[.int .i64 0, .int .i64 0, .int .i64 0] 45)) := (Below.refl _ w9).alloc (Nat.le_refl _) _
        have KZ := Lib.hid (Hp.blk_new w9 (.cells #[.int .i64 0, .int .i64 0, .int .i64 0] 45))
        replace KH := Lib.hid (Hp.blk_alloc KH.out (.cells #[.int .i64 0, .int .i64 0, .int .i64 0] 45))
        replace HB := Lib.hid (HB.out.trans (hb0.mono HB.out.size))
        clear hb0 HT
        obtain ⟨bz, hbz⟩ : ∃ bz, bz = w9.heap.size := ⟨_, rfl⟩
        generalize (w9.alloc (.cells #[.int .i64 0, .int .i64 0, .int .i64 0] 45)) = w10 at KH KZ HB ⊢
        simp only [← hbz] at KZ ⊢
        clear hbz
        go_wp2_with (first
          | (go_at_call 8; go_loud ((with_reducible refine (classed _).mono ?_); rintro e w12 ⟨rfl, hb⟩; (have KW2 := (hb.block _ (Hp.blk_lt KZ.out)).trans KZ.out); (have KH3 := (hb.block _ (Hp.blk_lt KH.out)).trans KH.out); (obtain ⟨z0, -⟩ := Hp.blk_cell KW2 0 rfl); (obtain ⟨z1, -⟩ := Hp.blk_cell KW2 1 rfl); (obtain ⟨z2, -⟩ := Hp.blk_cell KW2 2 rfl); (obtain ⟨y0, -⟩ := Hp.blk_cell KH3 0 rfl); (obtain ⟨y1, -⟩ := Hp.blk_cell KH3 1 rfl); (obtain ⟨y2, -⟩ := Hp.blk_cell KH3 2 rfl); (have HB3 := Lib.hid (HB.out.trans (hb.mono HB.out.size))); clear hb KW2 KH3 KZ KH HB)))
        go_ret
        exact ⟨by first | rfl | simp, HB3.out⟩
  · have HN := Lib.hid (new_no (C_below HR.out HB.out) HC.out h0)
    obtain ⟨⟨r1, r2⟩, hne⟩ : ∃ r, r = newE l := ⟨_, rfl⟩
    rw [← hne] at HN h0
    have hb0 : (r2 != 0) = true := by simpa using h0
    clear h0 hne
    go_enter Try.func7, Try.ntmps7
    go_upto_region 1 with (fail)
    refine Rg.Upto.start (fun w' => w'.heap[w.heap.size]? = some (.cells #[.slice A l.length cp, .string s, .int .i64 c, .int .i64 f] 49 (0, 0))) 1000 (by kernel_rfl) KB.out (fun HSC => ?_)
    refine Rg.Upto.takeA (i := 0) (v := ?_) rfl (by kernel_rfl) (by kernel_rfl) (by kernel_rfl) (of_decide_eq_true (by kernel_rfl)) (fun _ _ _ h => h) (by rfl) (fun w5 hS5 => ?_) HSC ?_
    rotate_left
    · have b0 := (Hp.blk_cell hS5 0 rfl).1
      have b1 := (Hp.blk_cell hS5 1 rfl).1
      have b2 := (Hp.blk_cell hS5 2 rfl).1
      have b3 := (Hp.blk_cell hS5 3 rfl).1
      clear hS5
      go_simp
      try rfl
    try simp only [Act.put, List.setIfInBounds_toArray, List.set_cons_zero, List.set_cons_succ]
    refine Rg.Upto.takeA (i := 1) (v := ?_) rfl (by kernel_rfl) (by kernel_rfl) (by kernel_rfl) (of_decide_eq_true (by kernel_rfl)) (fun _ _ _ h => h) (by rfl) (fun w5 hS5 => ?_) HSC ?_
    rotate_left
    · have b0 := (Hp.blk_cell hS5 0 rfl).1
      have b1 := (Hp.blk_cell hS5 1 rfl).1
      have b2 := (Hp.blk_cell hS5 2 rfl).1
      have b3 := (Hp.blk_cell hS5 3 rfl).1
      clear hS5
      go_simp
      try rfl
    try simp only [Act.put, List.setIfInBounds_toArray, List.set_cons_zero, List.set_cons_succ]
    refine Rg.Upto.takeA (i := 2) (v := ?_) rfl (by kernel_rfl) (by kernel_rfl) (by kernel_rfl) (of_decide_eq_true (by kernel_rfl)) (fun _ _ _ h => h) (by rfl) (fun w5 hS5 => ?_) HSC ?_
    rotate_left
    · have b0 := (Hp.blk_cell hS5 0 rfl).1
      have b1 := (Hp.blk_cell hS5 1 rfl).1
      have b2 := (Hp.blk_cell hS5 2 rfl).1
      have b3 := (Hp.blk_cell hS5 3 rfl).1
      clear hS5
      go_simp
      try rfl
    try simp only [Act.put, List.setIfInBounds_toArray, List.set_cons_zero, List.set_cons_succ]
    refine Rg.Upto.takeA (i := 3) (v := ?_) rfl (by kernel_rfl) (by kernel_rfl) (by kernel_rfl) (of_decide_eq_true (by kernel_rfl)) (fun _ _ _ h => h) (by rfl) (fun w5 hS5 => ?_) HSC ?_
    rotate_left
    · have b0 := (Hp.blk_cell hS5 0 rfl).1
      have b1 := (Hp.blk_cell hS5 1 rfl).1
      have b2 := (Hp.blk_cell hS5 2 rfl).1
      have b3 := (Hp.blk_cell hS5 3 rfl).1
      clear hS5
      go_simp
      try rfl
    try simp only [Act.put, List.setIfInBounds_toArray, List.set_cons_zero, List.set_cons_succ]
    refine Rg.Upto.takeA (i := 4) (v := ?_) rfl (by kernel_rfl) (by kernel_rfl) (by kernel_rfl) (of_decide_eq_true (by kernel_rfl)) (fun _ _ _ h => h) (by rfl) (fun w5 hS5 => ?_) HSC ?_
    rotate_left
    · have b0 := (Hp.blk_cell hS5 0 rfl).1
      have b1 := (Hp.blk_cell hS5 1 rfl).1
      have b2 := (Hp.blk_cell hS5 2 rfl).1
      have b3 := (Hp.blk_cell hS5 3 rfl).1
      clear hS5
      go_simp
      try rfl
    try simp only [Act.put, List.setIfInBounds_toArray, List.set_cons_zero, List.set_cons_succ]
    refine Rg.Upto.takeA (i := 5) (v := ?_) rfl (by kernel_rfl) (by kernel_rfl) (by kernel_rfl) (of_decide_eq_true (by kernel_rfl)) (fun _ _ _ h => h) (by rfl) (fun w5 hS5 => ?_) HSC ?_
    rotate_left
    · have b0 := (Hp.blk_cell hS5 0 rfl).1
      have b1 := (Hp.blk_cell hS5 1 rfl).1
      have b2 := (Hp.blk_cell hS5 2 rfl).1
      have b3 := (Hp.blk_cell hS5 3 rfl).1
      clear hS5
      go_simp
      try rfl
    try simp only [Act.put, List.setIfInBounds_toArray, List.set_cons_zero, List.set_cons_succ]
    refine Rg.Upto.takeA (i := 6) (v := ?_) rfl (by kernel_rfl) (by kernel_rfl) (by kernel_rfl) (of_decide_eq_true (by kernel_rfl)) (fun _ _ _ h => h) (by rfl) (fun w5 hS5 => ?_) HSC ?_
    rotate_left
    · have b0 := (Hp.blk_cell hS5 0 rfl).1
      have b1 := (Hp.blk_cell hS5 1 rfl).1
      have b2 := (Hp.blk_cell hS5 2 rfl).1
      have b3 := (Hp.blk_cell hS5 3 rfl).1
      clear hS5
      go_simp
      try rfl
    try simp only [Act.put, List.setIfInBounds_toArray, List.set_cons_zero, List.set_cons_succ]
    refine Rg.Upto.takeA (i := 7) (v := ?_) rfl (by kernel_rfl) (by kernel_rfl) (by kernel_rfl) (of_decide_eq_true (by kernel_rfl)) (fun _ _ _ h => h) (by rfl) (fun w5 hS5 => ?_) HSC ?_
    rotate_left
    · have b0 := (Hp.blk_cell hS5 0 rfl).1
      have b1 := (Hp.blk_cell hS5 1 rfl).1
      have b2 := (Hp.blk_cell hS5 2 rfl).1
      have b3 := (Hp.blk_cell hS5 3 rfl).1
      clear hS5
      go_simp
      try rfl
    try simp only [Act.put, List.setIfInBounds_toArray, List.set_cons_zero, List.set_cons_succ]
    refine Rg.Upto.takeA (i := 8) (v := ?_) rfl (by kernel_rfl) (by kernel_rfl) (by kernel_rfl) (of_decide_eq_true (by kernel_rfl)) (fun _ _ _ h => h) (by rfl) (fun w5 hS5 => ?_) HSC ?_
    rotate_left
    · have b0 := (Hp.blk_cell hS5 0 rfl).1
      have b1 := (Hp.blk_cell hS5 1 rfl).1
      have b2 := (Hp.blk_cell hS5 2 rfl).1
      have b3 := (Hp.blk_cell hS5 3 rfl).1
      clear hS5
      go_simp
      try rfl
    try simp only [Act.put, List.setIfInBounds_toArray, List.set_cons_zero, List.set_cons_succ]
    refine Rg.Upto.takeA (i := 9) (v := ?_) rfl (by kernel_rfl) (by kernel_rfl) (by kernel_rfl) (of_decide_eq_true (by kernel_rfl)) (fun _ _ _ h => h) (by rfl) (fun w5 hS5 => ?_) HSC ?_
    rotate_left
    · have b0 := (Hp.blk_cell hS5 0 rfl).1
      have b1 := (Hp.blk_cell hS5 1 rfl).1
      have b2 := (Hp.blk_cell hS5 2 rfl).1
      have b3 := (Hp.blk_cell hS5 3 rfl).1
      clear hS5
      go_simp
      try rfl
    try simp only [Act.put, List.setIfInBounds_toArray, List.set_cons_zero, List.set_cons_succ]
    refine Rg.Upto.takeA (i := 10) (v := ?_) rfl (by kernel_rfl) (by kernel_rfl) (by kernel_rfl) (of_decide_eq_true (by kernel_rfl)) (fun _ _ _ h => h) (by rfl) (fun w5 hS5 => ?_) HSC ?_
    rotate_left
    · have b0 := (Hp.blk_cell hS5 0 rfl).1
      have b1 := (Hp.blk_cell hS5 1 rfl).1
      have b2 := (Hp.blk_cell hS5 2 rfl).1
      have b3 := (Hp.blk_cell hS5 3 rfl).1
      clear hS5
      go_simp
      try rfl
    try simp only [Act.put, List.setIfInBounds_toArray, List.set_cons_zero, List.set_cons_succ]
    refine Rg.Upto.takeA (i := 11) (v := ?_) rfl (by kernel_rfl) (by kernel_rfl) (by kernel_rfl) (of_decide_eq_true (by kernel_rfl)) (fun _ _ _ h => h) (by rfl) (fun w5 hS5 => ?_) HSC ?_
    rotate_left
    · have b0 := (Hp.blk_cell hS5 0 rfl).1
      have b1 := (Hp.blk_cell hS5 1 rfl).1
      have b2 := (Hp.blk_cell hS5 2 rfl).1
      have b3 := (Hp.blk_cell hS5 3 rfl).1
      clear hS5
      go_simp
      try rfl
    try simp only [Act.put, List.setIfInBounds_toArray, List.set_cons_zero, List.set_cons_succ]
    clear HSC
    refine Rg.Upto.done (by kernel_rfl) ?_
    clear KB
    generalize (w.alloc (.cells #[.slice A l.length cp, .string s, .int .i64 c, .int .i64 f] 49)).drew = w0 at HB HN ⊢
    go_wp2_with (first
      | (go_at_call 11; go_loud ((with_reducible refine HN.out.mono ?_); rintro e w1 ⟨rfl, hb⟩; (replace HB := Lib.hid (HB.out.trans (hb.mono HB.out.size))); clear hb HN))
      | (go_at_call 8; go_loud ((with_reducible refine (classed _).mono ?_); rintro e w2 ⟨rfl, hb⟩; (replace HB := Lib.hid (HB.out.trans (hb.mono HB.out.size))); clear hb)))
    go_ret
    exact ⟨rfl, HB.out⟩
abbrev d49 : Kd (List S34 × ByteArray × Int × Int) := Kd.pair (Kd.slice 34 k34) (Kd.pair Kd.string (Kd.pair (Kd.int .i64) (Kd.int .i64)))
theorem op49 : Rk.Opens d49 [.slice [.str, .slice [.str, .int .i64]], .str, .int .i64, .int .i64] (fun x => (x.1.length ≤ maxLen ∧ ∀ y ∈ x.1, True) ∧ x.2.1.size ≤ maxLen ∧ (Lit.int .i64 x.2.2.1).wf = true ∧ (Lit.int .i64 x.2.2.2).wf = true) :=
  Rk.opens_pair (Rk.opens_slice 34 op34) (Rk.opens_pair Rk.opens_str (Rk.opens_pair (Rk.opens_int .i64) (Rk.opens_int .i64)))
theorem finds_row (cs : Array Value) (b : List S34 × ByteArray × Int × Int) (w : World) (h : d49.K w b cs.toList) :
    Calls Try.prog 7 #[.agg cs] w fun e w' => e = .returned (.bool true) ∧ Below w.heap.size w w' := by
  obtain ⟨l, s, c, f⟩ := b
  obtain ⟨c1, c2, e1, ⟨A, cp, rfl, hle, hC⟩, d1, d2, rfl, e2, e3, e4, rfl, e5, e6⟩ := h
  have e2' : d1 = [.string s] := e2
  have e5' : e3 = [.int .i64 c] := e5
  have e6' : e4 = [.int .i64 f] := e6
  subst e2' e5' e6'
  have : cs = #[.slice A l.length cp, .string s, .int .i64 c, .int .i64 f] := by
    apply Array.toList_inj.1
    rw [e1]
    rfl
  subst this
  exact finds_law A cp l s c f w hC hle
end Go.Proofs.Yteankgbcmfkfnaa.Cl

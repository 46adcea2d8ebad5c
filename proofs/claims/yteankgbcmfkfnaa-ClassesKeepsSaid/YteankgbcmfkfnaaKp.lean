/- ClassesKeeps. -/
import Derived.Test.YteankgbcmfkfnaaKa
namespace Go.Proofs.Yteankgbcmfkfnaa.Cl
open Go Go.RowKit Go.Proofs.Yteankgbcmfkfnaa.Hp Go.Proofs.Yteankgbcmfkfnaa.PH
open Go.Proofs.YteankgbcmfkfnaaW.PrintWords (bt Kd Drawn0)
open Go.Proofs.YteankgbcmfkfnaaW.PrintWords.Kd (C_below R_reads R_lower R_mono R_move R_bound)
set_option linter.unusedVariables false
set_option linter.unusedSimpArgs false

theorem app_mem {B : Nat} {W : World} {v v9 : Value} {L : List S34} {f0 : ByteArray} {f1 : List S41} (h : k34.R 34 W B (fun _ => True) v L) (h9 : k41.R 41 W B (fun _ => True) v9 f1) : k34.M W B (fun k => True ∧ some k ≠ v.ownBlock) ⟨f0, f1⟩ [.string f0, v9] := by
  refine k34_mkM W B _ ⟨f0, f1⟩ (R_mono (R_bound h9) (fun k hk => ⟨trivial, fun e => ?_⟩))
  obtain ⟨_, _, _, q, hq, cells, hc⟩ := hk
  obtain ⟨inner, hown⟩ := Go.Proofs.YteankgbcmfkfnaaW.PrintWords.Kd.R_own h
  obtain ⟨⟨cs, h3⟩, _⟩ := row_blk hown k e.symm
  rw [hc] at h3
  injection h3 with h3
  injection h3 with _ h3
  have : q ∈ [41] := hq
  simp at this
  rw [this] at h3
  cases h3
theorem class_in (c : Int) (n : Nat) (hn : 0 < n) (hb : n ≤ 1000 := by omega) : ∃ q : Nat, wrap64 ((IntKind.u64.wrap c).tmod (n : Int)) = (q : Int) ∧ q < n := by
  have h0 : 0 ≤ IntKind.u64.wrap c := by rw [Eo.u64w]; omega
  rw [Int.tmod_eq_emod_of_nonneg h0]
  have h1 := Int.emod_nonneg (IntKind.u64.wrap c) (show (n : Int) ≠ 0 by omega)
  have h2 := Int.emod_lt_of_pos (IntKind.u64.wrap c) (show (0 : Int) < n by omega)
  refine ⟨(IntKind.u64.wrap c % (n : Int)).toNat, ?_, by omega⟩
  rw [Eo.w64 (by omega) (by omega)]
  omega
theorem new_tb {A : Option Addr} {cp : Nat} {l : List S34} {w : World} (hr : Kd.C k34 w A l.length l) (hc : l.length ≤ cp) (h : (newE l).2 = 0) :
    Calls Try.prog 11 #[.slice A l.length cp] w fun e w' => ∃ t vl vm, e = .returned (.tuple #[.pointer (some ⟨t, 0, none⟩), .int .i64 0, .int .i64 0]) ∧ TB w.heap.size w' t l (l.map fun x => fieldsM x.f1) vl vm ∧ Below w.heap.size w w' := by
  refine (new_call A cp l w hr hc).mono ?_
  rintro e w' ⟨hb, ⟨h1, _⟩ | ⟨_, t, vl, vm, rfl, hT⟩⟩
  · exact absurd h h1
  · exact ⟨t, vl, vm, rfl, hT, hb⟩
set_option maxHeartbeats 8000000 in
set_option maxRecDepth 100000 in
theorem keeps_law (A : Option Addr) (cp : Nat) (l : List S34) (c : Int) (w : World) (hr : Kd.C k34 w A l.length l) (hc : l.length ≤ cp) :
    Calls Try.prog 5 #[.slice A l.length cp, .int .i64 c] w fun e w' => e = .returned (.bool true) ∧ Below w.heap.size w w' := by
  have HR := Lib.hid hr
  have HB := Lib.hid (Below.refl w.heap.size w)
  clear hr hc
  by_cases h20 : 20 < l.length
  · go_enter Try.func5, Try.ntmps5
    go_wp2_with (first
      | (go_at_call 8; go_loud ((with_reducible refine (classed _).mono ?_); rintro e w2 ⟨rfl, hb⟩; (replace HB := Lib.hid (HB.out.trans (hb.mono HB.out.size))); clear hb)))
    go_ret
    exact ⟨rfl, HB.out⟩
  · have hl20 : l.length ≤ 20 := by omega
    clear h20
    go_enter Try.func5, Try.ntmps5
    go_wp2_with (first
      | (go_at_call 8; go_loud ((with_reducible refine (classed _).mono ?_); rintro e w2 ⟨rfl, hb⟩; (replace HB := Lib.hid (HB.out.trans (hb.mono HB.out.size))); clear hb)))
    have HIN : Hid (k34.R 34 w2 w.heap.size (fun _ => True) (.slice none 0 0) ([] : List S34)) := Lib.hid (Go.Proofs.YteankgbcmfkfnaaW.PrintWords.Kd.R_nil _ _ _ _ _)
    go_loopw [5, 6] (fun v5 v6 wr => ∃ k : Nat, k ≤ l.length ∧ v6 = .int .i64 k ∧ Hid (k34.R 34 wr w.heap.size (fun _ => True) v5 (l.take k)) ∧ Hid (Below w.heap.size w wr)) (fun _ v6 _ => l.length - (intOf v6).toNat)
    case atStart => exact ⟨0, Nat.zero_le _, rfl, HIN, HB⟩
    case round =>
      clear HIN HB
      obtain ⟨k, hk, rfl, HIN, HB⟩ := hrel
      by_cases hkl : k < l.length
      · obtain ⟨ad, A1, c1, hA, r0, r1, hle1, hC1⟩ := at34 HR.out k hkl
        subst hA
        have X0 := Lib.hid r0
        have X1 := Lib.hid r1
        replace r0 := (HB.out.cell (World.block_lt_of_cell? w _ r0)).trans r0
        replace r1 := (HB.out.cell (World.block_lt_of_cell? w _ r1)).trans r1
        have HTK : Hid (l.take (k + 1) = l.take k ++ [rd_T34 l (k : Nat)]) := Lib.hid (take_succ34 l k hkl)
        obtain ⟨x, hx⟩ : ∃ x, x = rd_T34 l (k : Int) := ⟨_, rfl⟩
        rw [← hx] at r0 r1 X0 X1 hle1 hC1 HTK
        obtain ⟨f0, f1⟩ := x
        simp only at r0 r1 X0 X1 hle1 hC1
        have HC1 := Lib.hid hC1
        clear hx hC1
        by_cases hf20 : 20 < f1.length
        · go_wp2_with (fail)
          go_ret
          exact ⟨rfl, HB.out⟩
        · have H20 : Hid (f1.length ≤ 20) := Lib.hid (by omega)
          go_upto_region 9 with (fail)
          have HBD := Lib.hid HB.out.drew
          replace HIN := Lib.hid (R_mono (R_bound (Go.Proofs.YteankgbcmfkfnaaW.PrintWords.Kd.R_below HIN.out ((Below.refl _ _).drew))) (fun k hk => (show k < wr.heap.size from hk.2.2.1)))
          clear r0 r1
          refine Rg.Upto.start (fun w' => Below w.heap.size w w') 1000 (by kernel_rfl) HBD.out (fun HSC => ?_)
          refine Rg.Upto.takeA (i := 0) (v := ?_) rfl (by kernel_rfl) (by kernel_rfl) (by kernel_rfl) (of_decide_eq_true (by kernel_rfl)) (fun _ _ _ h => h) (by rfl) (fun w5 hS5 => ?_) HSC ?_
          rotate_left
          · clear hS5
            go_simp
            try rfl
          try simp only [Act.put, List.setIfInBounds_toArray, List.set_cons_zero, List.set_cons_succ]
          refine Rg.Upto.takeA (i := 1) (v := ?_) rfl (by kernel_rfl) (by kernel_rfl) (by kernel_rfl) (of_decide_eq_true (by kernel_rfl)) (fun _ _ _ h => h) (by rfl) (fun w5 hS5 => ?_) HSC ?_
          rotate_left
          · clear hS5
            go_simp
            try rfl
          try simp only [Act.put, List.setIfInBounds_toArray, List.set_cons_zero, List.set_cons_succ]
          refine Rg.Upto.takeA (i := 2) (v := ?_) rfl (by kernel_rfl) (by kernel_rfl) (by kernel_rfl) (of_decide_eq_true (by kernel_rfl)) (fun _ _ _ h => h) (by rfl) (fun w5 hS5 => ?_) HSC ?_
          rotate_left
          · clear hS5
            go_simp
            try rfl
          try simp only [Act.put, List.setIfInBounds_toArray, List.set_cons_zero, List.set_cons_succ]
          refine Rg.Upto.takeA (i := 3) (v := ?_) rfl (by kernel_rfl) (by kernel_rfl) (by kernel_rfl) (of_decide_eq_true (by kernel_rfl)) (fun _ _ _ h => h) (by rfl) (fun w5 hS5 => ?_) HSC ?_
          rotate_left
          · clear hS5
            go_simp
            try rfl
          try simp only [Act.put, List.setIfInBounds_toArray, List.set_cons_zero, List.set_cons_succ]
          refine Rg.Upto.takeA (i := 4) (v := ?_) rfl (by kernel_rfl) (by kernel_rfl) (by kernel_rfl) (of_decide_eq_true (by kernel_rfl)) (fun _ _ _ h => h) (by rfl) (fun w5 hS5 => ?_) HSC ?_
          rotate_left
          · clear hS5
            go_simp
            try rfl
          try simp only [Act.put, List.setIfInBounds_toArray, List.set_cons_zero, List.set_cons_succ]
          refine Rg.Upto.takeA (i := 5) (v := ?_) rfl (by kernel_rfl) (by kernel_rfl) (by kernel_rfl) (of_decide_eq_true (by kernel_rfl)) (fun _ _ _ h => h) (by rfl) (fun w5 hS5 => ?_) HSC ?_
          rotate_left
          · have y0 := (hS5.cell (World.block_lt_of_cell? _ _ X0.out)).trans X0.out
            have y1 := (hS5.cell (World.block_lt_of_cell? _ _ X1.out)).trans X1.out
            clear hS5
            go_simp
            try rfl
          try simp only [Act.put, List.setIfInBounds_toArray, List.set_cons_zero, List.set_cons_succ]
          refine Rg.Upto.takeA (i := 7) (v := ?_) rfl (by kernel_rfl) (by kernel_rfl) (by kernel_rfl) (of_decide_eq_true (by kernel_rfl)) (fun _ _ _ h => h) (by rfl) (fun w5 hS5 => ?_) HSC ?_
          rotate_left
          · clear hS5
            go_simp
            try rfl
          try simp only [Act.put, List.setIfInBounds_toArray, List.set_cons_zero, List.set_cons_succ]
          refine Rg.Upto.takeA (i := 8) (v := ?_) rfl (by kernel_rfl) (by kernel_rfl) (by kernel_rfl) (of_decide_eq_true (by kernel_rfl)) (fun _ _ _ h => h) (by rfl) (fun w5 hS5 => ?_) HSC ?_
          rotate_left
          · clear hS5
            go_simp
            try rfl
          try simp only [Act.put, List.setIfInBounds_toArray, List.set_cons_zero, List.set_cons_succ]
          refine Rg.Upto.takeA (i := 9) (v := ?_) rfl (by kernel_rfl) (by kernel_rfl) (by kernel_rfl) (of_decide_eq_true (by kernel_rfl)) (fun _ _ _ h => h) (by rfl) (fun w5 hS5 => ?_) HSC ?_
          rotate_left
          · clear hS5
            go_simp
            try rfl
          try simp only [Act.put, List.setIfInBounds_toArray, List.set_cons_zero, List.set_cons_succ]
          refine Rg.Upto.takeA (i := 10) (v := ?_) rfl (by kernel_rfl) (by kernel_rfl) (by kernel_rfl) (of_decide_eq_true (by kernel_rfl)) (fun _ _ _ h => h) (by rfl) (fun w5 hS5 => ?_) HSC ?_
          rotate_left
          · clear hS5
            go_simp
            try rfl
          try simp only [Act.put, List.setIfInBounds_toArray, List.set_cons_zero, List.set_cons_succ]
          refine Rg.Upto.takeA (i := 11) (v := ?_) rfl (by kernel_rfl) (by kernel_rfl) (by kernel_rfl) (of_decide_eq_true (by kernel_rfl)) (fun _ _ _ h => h) (by rfl) (fun w5 hS5 => ?_) HSC ?_
          rotate_left
          · have y0 := (hS5.cell (World.block_lt_of_cell? _ _ X0.out)).trans X0.out
            have y1 := (hS5.cell (World.block_lt_of_cell? _ _ X1.out)).trans X1.out
            clear hS5
            go_simp
            try rfl
          try simp only [Act.put, List.setIfInBounds_toArray, List.set_cons_zero, List.set_cons_succ]
          refine Rg.Upto.oneW (i := 6) rfl (by kernel_rfl) (fun KK hK => ?_)
          refine Go.Proofs.YteankgbcmfkfnaaW.PrintWords.Kd.R_lit_step k41 (w0 := w) w.heap.size 41 ?hg (N := 43) ?hd (xs := ([] : List S41)) (inner := []) (ok := fun _ => True) (okp := fun _ => True) ?hr ?hp (fun _ hk => hk) trivial HBD.out HBD.out.size (by simp) ?_
          case hd => rfl
          case hg => rfl
          case hr => first | (go_simp; done) | (go_simp; rfl)
          case hp => exact Go.Proofs.YteankgbcmfkfnaaW.PrintWords.Reps.none _ _
          intro v106 w6 ho7 hb6 hg6 hnew6
          have HSC6 : Below w.heap.size w w6 := hb6
          have HNEW : Hid (∃ b, v106.ownBlock = some b ∧ wr.heap.size ≤ b) := Lib.hid (by obtain ⟨b, h1, h2⟩ := hnew6; exact ⟨b, h1, h2⟩)
          refine hK.out _ _ HSC6 ?_
          clear hK KK hnew6
          have HI6 := Lib.hid (Go.Proofs.YteankgbcmfkfnaaW.PrintWords.Kd.R_grown HIN.out hg6 (fun _ _ e => by cases e))
          have HO6 := Lib.hid ho7
          have HB6 := Lib.hid hb6
          clear ho7 hb6 hg6 HSC HBD HIN
          have HSC := HSC6
          clear HSC6
          try simp only [Act.put, List.setIfInBounds_toArray, List.set_cons_zero, List.set_cons_succ]
          refine Rg.Upto.oneW (i := 12) rfl (by kernel_rfl) (fun KK hK => ?_)
          refine Go.Proofs.YteankgbcmfkfnaaW.PrintWords.Kd.R_append_rows_step k41 (w0 := w) w.heap.size (by rfl) (.tmp 43) (.tmp 48) 32 41 (.agg #[(.string ⟨#[]⟩), (.int .i64 0)]) 24 rfl Try.underlying32 info41 rfl (by decide) (by omega) v106 [] f1 _ _ _ (fun _ => True) (fun _ => False) rfl rfl ?aO ?aR (fun _ _ h => h) (fun _ h => h.elim) ?aF ?aB ?aS ?aL ?_
          case aR => exact C_below HC1.out HB6.out
          case aB => exact HB6.out
          case aF => exact (fun _ _ => trivial)
          case aO => exact HO6.out
          case aS => exact HB6.out.size
          case aL => have := H20.out; simp; omega
          intro v109 w8 ho8 hb8 hg8 hat8
          have HI8 := Lib.hid (R_mono (Go.Proofs.YteankgbcmfkfnaaW.PrintWords.Kd.R_grown HI6.out hg8 (fun k hk e => by
            obtain ⟨b, h1, h2⟩ := HNEW.out
            rw [h1] at e
            injection e with e
            have hk' : k < wr.heap.size := hk
            omega)) (fun _ _ => trivial : ∀ k, _ → True))
          have HSC8 : Below w.heap.size w w8 := hb8
          clear HNEW
          obtain ⟨A9, c9, e9⟩ := Go.Proofs.YteankgbcmfkfnaaW.PrintWords.Kd.R_slice ho8
          subst e9
          have HO8 := Lib.hid ho8
          have HB8 := Lib.hid hb8
          refine hK.out _ _ HSC8 ?_
          clear hK KK HSC ho8 hb8 hg8 hat8 HO6 HI6 HB6
          have HSC := HSC8
          clear HSC8
          try simp only [Act.put, List.setIfInBounds_toArray, List.set_cons_zero, List.set_cons_succ]
          refine Rg.Upto.takeA (i := 13) (v := ?_) rfl (by kernel_rfl) (by kernel_rfl) (by kernel_rfl) (of_decide_eq_true (by kernel_rfl)) (fun _ _ _ h => h) (by rfl) (fun w5 hS5 => ?_) HSC ?_
          rotate_left
          · clear hS5
            go_simp
            try rfl
          try simp only [Act.put, List.setIfInBounds_toArray, List.set_cons_zero, List.set_cons_succ]
          refine Rg.Upto.one (i := 14) rfl (by kernel_rfl) (by rfl) (fun KK hK => ?_)
          go_simp
          refine hK.out _ _ (HSC.alloc HSC.size _) ?_
          clear hK KK
          try simp only [Act.put, List.setIfInBounds_toArray, List.set_cons_zero, List.set_cons_succ]
          refine Rg.Upto.oneW (i := 15) rfl (by kernel_rfl) (fun KK hK => ?_)
          refine Go.Proofs.YteankgbcmfkfnaaW.PrintWords.Kd.R_append_step k34 (w0 := w) w.heap.size (by rfl) (.tmp 37) (.tmp 51) 24 34 (.agg #[.string ByteArray.empty, .slice none 0 0]) 40 rfl Try.underlying24 infoC rfl (by decide) (by omega) _ (l.take k) ⟨f0, f1⟩ [.string f0, .slice A9 (([] : List S41) ++ f1).length c9] (fun _ => True) (fun k2 => True ∧ some k2 ≠ Value.ownBlock _) rfl rfl (app_mem HI8.out HO8.out) (fun _ hk => hk) (fun _ _ => trivial) HI8.out HB8.out HB8.out.size ?hl ?_
          case hl => rw [List.length_take]; omega
          intro v5 w9 ho9 hb9 hg9 hat9
          rw [← HTK.out] at ho9
          have HI9 := Lib.hid ho9
          have HB9 := Lib.hid hb9
          have HSC9 : Below w.heap.size w w9 := hb9
          refine hK.out _ _ HSC9 ?_
          clear hK KK HSC ho9 hb9 hg9 hat9 HI8 HO8 HB8
          have HSC := HSC9
          clear HSC9
          try simp only [Act.put, List.setIfInBounds_toArray, List.set_cons_zero, List.set_cons_succ]
          refine Rg.Upto.one (i := 16) rfl (by kernel_rfl) (by rfl) (fun KK hK => ?_)
          go_simp
          refine hK.out _ _ HSC ?_
          clear hK KK HSC
          try simp only [Act.put, List.setIfInBounds_toArray, List.set_cons_zero, List.set_cons_succ]
          refine Rg.Upto.done (by kernel_rfl) ?_
          go_wp2_with (fail)
          go_roundw
          case rel => exact ⟨k + 1, by omega, by go_num, HI9, HB9⟩
          case measure => simp [intOf]; omega
      · obtain rfl : k = l.length := by omega
        have HIN2 : Hid (k34.R 34 wr w.heap.size (fun _ => True) u5 l) := Lib.hid (by
          have := HIN.out
          rwa [List.take_length] at this)
        clear HIN
        by_cases hE : (newE l).2 = 0
        · by_cases hl0 : l.length = 0
          · obtain ⟨A5, c5, h5, hle5, hC5⟩ := R_reads HIN2.out
            subst h5
            have HN := Lib.hid (new_yes hC5 hle5 hE)
            have b0 : ((l.length : Int) == 0) = true := beq_iff_eq.2 (by omega)
            clear hC5 hle5 HIN2 hE hl0
            go_wp2_with (first
              | (go_at_call 11; go_loud ((with_reducible refine HN.out.mono ?_); rintro e w1 ⟨t, AT, Am, ca, cm, rfl, hT, hb⟩; (replace HB := Lib.hid (HB.out.trans (hb.mono HB.out.size))); clear hT hb HN)))
            go_ret
            exact ⟨rfl, HB.out⟩
          · obtain ⟨g, cap, h5, hIn⟩ := ins_of HIN2.out (by omega)
            subst h5
            obtain ⟨A5, c5, h5, hle5, hC5⟩ := R_reads HIN2.out
            injection h5 with h5 h6 h7
            subst h5 h7
            obtain ⟨hE0, h16, h15⟩ := newE_ok hE
            have HN := Lib.hid (new_tb hC5 hle5 hE)
            have H15 := Lib.hid h15
            have HS := Lib.hid hIn
            have b0 : ((l.length : Int) == 0) = false := beq_eq_false_iff_ne.2 (by omega)
            have hTB : w.heap.size ≤ wr.heap.size := HB.out.size
            have HR2 := Lib.hid (C_below HR.out HB.out)
            clear hC5 hle5 HIN2 hE hE0 h15 hIn h6
            go_upto_region 14 with (first
              | (go_at_call 11; go_loud ((with_reducible refine HN.out.mono ?_); rintro e w1 ⟨t, vl, vm, rfl, hT, hb⟩; (replace HB := Lib.hid (HB.out.trans (hb.mono HB.out.size))); (replace HS := Lib.hid (HS.out.below hb)); (have HT := Lib.hid hT); clear hT hb HN)))
            obtain ⟨T, hTT⟩ : ∃ T, T = wr.heap.size := ⟨_, rfl⟩
            rw [← hTT] at HS HT hTB
            clear hTT
            obtain ⟨q, hq, hql⟩ := class_in c l.length (by omega)
            rw [hq]
            clear hq
            go_wp2_with (fail)
            go_loopw [10] (fun v10 wr => ∃ i : Nat, i ≤ l.length ∧ v10 = .int .i64 i ∧ Hid (InS w.heap.size T wr g l i) ∧ Hid (TB T wr t l (l.map fun x => fieldsM x.f1) vl vm) ∧ Hid (Below w.heap.size w wr)) (fun v10 _ => l.length - (intOf v10).toNat)
            case atStart => exact ⟨0, Nat.zero_le _, rfl, HS, HT, HB⟩
            case round =>
              clear HS HT HB
              obtain ⟨i, hi, rfl, HS, HT, HB⟩ := hrel
              by_cases hil : i < l.length
              · obtain ⟨cs, HCS⟩ : ∃ cs, Hid (wr.heap[g]? = some (.cells cs 34 (0, 0)) ∧ ∃ s A c, cs[2 * i]? = some (.string s) ∧ cs[2 * i + 1]? = some (.slice A (rd_T34 l i).f1.length c) ∧ Fl w.heap.size T wr A (rd_T34 l i).f1.length) := by
                  obtain ⟨cs, h1, h2⟩ := HS.out.ex
                  exact ⟨cs, Lib.hid ⟨h1, h2 i (Nat.le_refl _) hil⟩⟩
                obtain ⟨s, Af, cf, HC2⟩ : ∃ s A c, Hid (cs[2 * i]? = some (.string s) ∧ cs[2 * i + 1]? = some (.slice A (rd_T34 l i).f1.length c) ∧ Fl w.heap.size T wr A (rd_T34 l i).f1.length) := by
                  obtain ⟨_, s, A, c, h⟩ := HCS.out
                  exact ⟨s, A, c, Lib.hid h⟩
                have hm15 := H15.out _ (rd34_mem l i hil)
                obtain ⟨m, hm⟩ : ∃ m, m = (rd_T34 l (i : Int)).f1.length := ⟨_, rfl⟩
                rw [← hm] at HC2 hm15
                have HCB := Lib.hid HCS.out.1
                have HFL := Lib.hid HC2.out.2.2
                have HE0 : Hid (cs[i * 2]? = some (.string s)) := Lib.hid (by rw [Nat.mul_comm]; exact HC2.out.1)
                have HE1 : Hid (cs[i * 2 + 1]? = some (.slice Af m cf)) := Lib.hid (by rw [Nat.mul_comm]; exact HC2.out.2.1)
                clear hm HC2 HCS
                go_wp2_with (fail)
                go_loopw [11] (fun v11 wr => ∃ k : Nat, k ≤ m ∧ v11 = .int .i64 k ∧ Hid (wr.heap[g]? = some (.cells cs 34 (0, 0))) ∧ Hid (Fl w.heap.size T wr Af m) ∧ Hid (InS w.heap.size T wr g l i) ∧ Hid (TB T wr t l (l.map fun x => fieldsM x.f1) vl vm) ∧ Hid (Below w.heap.size w wr)) (fun v11 _ => m - (intOf v11).toNat)
                case atStart => exact ⟨0, Nat.zero_le _, rfl, HCB, HFL, HS, HT, HB⟩
                case round =>
                  clear HS HT HB HCB HFL
                  obtain ⟨k, hk, rfl, HCB, HFL, HS, HT, HB⟩ := hrel
                  obtain ⟨x1, -⟩ := Hp.blk_cell HCB.out (i * 2 + 1) HE1.out
                  by_cases hkm : k < m
                  · obtain ⟨b, ds, hA, hBb, hbT, hbk, hsz⟩ := HFL.out (by omega)
                    subst hA
                    have HBK := Lib.hid hbk
                    obtain ⟨d0, hd0⟩ : ∃ d0, ds[k * 2]? = some d0 := ⟨_, Array.getElem?_eq_getElem (by omega)⟩
                    obtain ⟨d1, hd1⟩ : ∃ d1, ds[k * 2 + 1]? = some d1 := ⟨_, Array.getElem?_eq_getElem (by omega)⟩
                    obtain ⟨z0, y0⟩ := Hp.blk_cell HBK.out (k * 2) hd0
                    obtain ⟨z1, y1⟩ := Hp.blk_cell HBK.out (k * 2 + 1) hd1
                    have hk1 := Hp.blk_set HBK.out (k * 2) (.string { data := #[122, 122] })
                    obtain ⟨z2, y2⟩ := Hp.blk_cell hk1 (k * 2 + 1) (by rw [Array.getElem?_setIfInBounds_ne (by omega)]; exact hd1)
                    have hgb := blk_ne HCB.out HBK.out (by decide)
                    have HCB2 := Lib.hid (Hp.blk_far (Hp.blk_far HCB.out ⟨b, k * 2, none⟩ hgb (.string { data := #[122, 122] })) ⟨b, k * 2 + 1, none⟩ hgb (.int .i64 7))
                    have HFL2 := Lib.hid ((HFL.out.set ⟨b, k * 2, none⟩ (.string { data := #[122, 122] })).set ⟨b, k * 2 + 1, none⟩ (.int .i64 7))
                    have HS2 := Lib.hid ((HS.out.field HBK.out (x := k * 2) (.string { data := #[122, 122] })).field hk1 (x := k * 2 + 1) (.int .i64 7))
                    have HT2 := Lib.hid ((HT.out.set hbT (x := k * 2) (.string { data := #[122, 122] })).set hbT (x := k * 2 + 1) (.int .i64 7))
                    have hbs := below_set HB.out HB.out.size hBb (x := k * 2) (.string { data := #[122, 122] })
                    have HB2 := Lib.hid (below_set hbs hbs.size hBb (x := k * 2 + 1) (.int .i64 7))
                    clear hk1 hgb hbs hd0 hd1 hbk HCB HFL HS HT HB
                    go_wp2_with (fail)
                    go_roundw
                    case rel => exact ⟨k + 1, by omega, by go_num, HCB2, HFL2, HS2, HT2, HB2⟩
                    case measure => simp [intOf]; omega
                  · obtain rfl : k = m := by omega
                    obtain ⟨x0, f0⟩ := Hp.blk_cell HCB.out (i * 2) HE0.out
                    obtain ⟨x2, f2⟩ := Hp.blk_cell HCB.out (i * 2 + 1) HE1.out
                    have hk1 := Hp.blk_set HCB.out (i * 2) (.string { data := #[] })
                    obtain ⟨z2, y2⟩ := Hp.blk_cell hk1 (i * 2 + 1) (by rw [Array.getElem?_setIfInBounds_ne (by omega)]; exact HE1.out)
                    have HS2 := Lib.hid ((HS.out.next.class (x := i * 2) (by omega) (.string { data := #[] })).class (x := i * 2 + 1) (by omega) (.slice none 0 0))
                    have HT2 := Lib.hid ((HT.out.set HS.out.gt (x := i * 2) (.string { data := #[] })).set HS.out.gt (x := i * 2 + 1) (.slice none 0 0))
                    have hbs := below_set HB.out HB.out.size HS.out.bg (x := i * 2) (.string { data := #[] })
                    have HB2 := Lib.hid (below_set hbs hbs.size HS.out.bg (x := i * 2 + 1) (.slice none 0 0))
                    clear hk1 hbs HCB HFL HS HT HB
                    go_wp2_with (fail)
                    go_roundw
                    case rel => exact ⟨i + 1, by omega, by go_num, HS2, HT2, HB2⟩
                    case measure => simp [intOf]; omega
              · obtain rfl : i = l.length := by omega
                obtain ⟨At, Am, ca, cm, hIT⟩ := HT.out.reads (by simp) h16
                have HIT := Lib.hid hIT
                have hx15 := H15.out _ (rd34_mem l q hql)
                have HCY := Lib.hid (class_yes hIT q hql hx15)
                obtain ⟨ad, A1, c1, hA, r0, r1, hle1, hC1⟩ := at34 HR.out q hql
                subst hA
                have HCY2 := Lib.hid (fun wx (hx : IsT wx t l (l.map fun x => fieldsM x.f1) At Am ca cm) => class_yes hx q hql hx15)
                obtain ⟨x, hx⟩ : ∃ x, x = rd_T34 l (q : Int) := ⟨_, rfl⟩
                rw [← hx] at r0 r1 hle1 hC1 hx15 HCY HCY2
                obtain ⟨f0, f1⟩ := x
                simp only at r0 r1 hle1 hC1 hx15 HCY HCY2
                have R0 := Lib.hid r0
                have R1 := Lib.hid r1
                have HC1 := Lib.hid hC1
                have HLE1 := Lib.hid hle1
                clear hx r0 r1 hle1 hC1 hIT HS HT
                have HB22 := Lib.hid (Below.refl wr.heap.size wr)
                go_upto_region 23 with (first
                  | (go_at_call 14; go_loud ((with_reducible refine HCY.out.mono ?_); rintro e w5 ⟨v9, rfl, hR, hb⟩; (obtain ⟨A9, c9, h9, hF9⟩ := fx_of hR); subst h9; (have HFX := Lib.hid hF9); (replace HB22 := Lib.hid (HB22.out.trans (hb.mono HB22.out.size))); clear hR hb hF9 HCY)))
                obtain ⟨cb, hcb⟩ : ∃ cb, cb = w5.heap.size := ⟨_, rfl⟩
                have hbn : Below w5.heap.size w5 (w5.alloc (.cells #[.string f0, .slice A9 f1.length c9] 34)) := (Below.refl _ w5).alloc (Nat.le_refl _) _
                have HBK := Lib.hid (Hp.blk_new w5 (.cells #[.string f0, .slice A9 f1.length c9] 34))
                replace HFX := Lib.hid (HFX.out.below hbn)
                replace HB22 := Lib.hid (HB22.out.trans (hbn.mono HB22.out.size))
                clear hbn
                generalize (w5.alloc (.cells #[.string f0, .slice A9 f1.length c9] 34)) = w6 at HBK HFX HB22 ⊢
                simp only [← hcb] at HBK ⊢
                clear hcb
                obtain ⟨w0, hw0⟩ : ∃ w0, w0 = wr := ⟨_, rfl⟩
                rw [← hw0] at HB HIT HFX HB22
                clear hw0
                go_wp2_with (fail)
                go_loopw [13] (fun v13 wr => ∃ k : Nat, k ≤ f1.length ∧ v13 = .int .i64 k ∧ Hid (Fx w0.heap.size wr A9 f1 k) ∧ Hid (wr.heap[cb]? = some (.cells #[.string f0, .slice A9 f1.length c9] 34 (0, 0))) ∧ Hid (Below w0.heap.size w0 wr)) (fun v13 _ => f1.length - (intOf v13).toNat)
                case atStart => exact ⟨0, Nat.zero_le _, rfl, HFX, HBK, HB22⟩
                case round =>
                  clear HFX HBK HB22
                  obtain ⟨k, hk, rfl, HFX, HBK, HB22⟩ := hrel
                  have HBW := Lib.hid (HB.out.trans (HB22.out.mono HB.out.size))
                  obtain ⟨p1, -⟩ := Hp.blk_cell HBK.out 1 rfl
                  by_cases hkl : k < f1.length
                  · obtain ⟨b9, ds, hA, hb9, hbk9, hds⟩ := HFX.out hkl
                    subst hA
                    have HDS := Lib.hid (hds k (Nat.le_refl _) hkl)
                    have HB9 := Lib.hid hbk9
                    obtain ⟨a1, hA, u0, u1⟩ := at41 HC1.out k hkl
                    subst hA
                    clear hds hbk9
                    obtain ⟨x, hx⟩ : ∃ x, x = rd_T41 f1 (k : Int) := ⟨_, rfl⟩
                    rw [← hx] at HDS u0 u1
                    obtain ⟨g0, g1⟩ := x
                    simp only at HDS u0 u1
                    clear hx
                    obtain ⟨z0, y0⟩ := Hp.blk_cell HB9.out (k * 2) (by rw [Nat.mul_comm]; exact HDS.out.1)
                    obtain ⟨z1, y1⟩ := Hp.blk_cell HB9.out (k * 2 + 1) (by rw [Nat.mul_comm]; exact HDS.out.2)
                    have V0 := Lib.hid z0
                    have V1 := Lib.hid z1
                    have U0 := Lib.hid ((HBW.out.cell (World.block_lt_of_cell? _ _ u0)).trans u0)
                    have U1 := Lib.hid ((HBW.out.cell (World.block_lt_of_cell? _ _ u1)).trans u1)
                    have T0 := Lib.hid ((HBW.out.cell (World.block_lt_of_cell? _ _ R0.out)).trans R0.out)
                    have T1 := Lib.hid ((HBW.out.cell (World.block_lt_of_cell? _ _ R1.out)).trans R1.out)
                    clear z0 z1 y0 y1 u0 u1
                    go_upto_region 26 with (fail)
                    clear p1
                    refine Rg.Upto.start (fun w' => Below wr.heap.size wr w') 1000 (by kernel_rfl) (Below.refl _ wr).drew (fun HSC => ?_)
                    refine Rg.Upto.takeA (i := 0) (v := ?_) rfl (by kernel_rfl) (by kernel_rfl) (by kernel_rfl) (of_decide_eq_true (by kernel_rfl)) (fun _ _ _ h => h) (by rfl) (fun w5 hS5 => ?_) HSC ?_
                    rotate_left
                    · clear hS5
                      go_simp
                      try rfl
                    try simp only [Act.put, List.setIfInBounds_toArray, List.set_cons_zero, List.set_cons_succ]
                    refine Rg.Upto.takeA (i := 1) (v := ?_) rfl (by kernel_rfl) (by kernel_rfl) (by kernel_rfl) (of_decide_eq_true (by kernel_rfl)) (fun _ _ _ h => h) (by rfl) (fun w5 hS5 => ?_) HSC ?_
                    rotate_left
                    · have p1 := (Hp.blk_cell ((hS5.block _ (Hp.blk_lt HBK.out)).trans HBK.out) 1 rfl).1
                      clear hS5
                      go_simp
                      try rfl
                    try simp only [Act.put, List.setIfInBounds_toArray, List.set_cons_zero, List.set_cons_succ]
                    refine Rg.Upto.takeA (i := 2) (v := ?_) rfl (by kernel_rfl) (by kernel_rfl) (by kernel_rfl) (of_decide_eq_true (by kernel_rfl)) (fun _ _ _ h => h) (by rfl) (fun w5 hS5 => ?_) HSC ?_
                    rotate_left
                    · clear hS5
                      go_simp
                      try rfl
                    try simp only [Act.put, List.setIfInBounds_toArray, List.set_cons_zero, List.set_cons_succ]
                    refine Rg.Upto.takeA (i := 3) (v := ?_) rfl (by kernel_rfl) (by kernel_rfl) (by kernel_rfl) (of_decide_eq_true (by kernel_rfl)) (fun _ _ _ h => h) (by rfl) (fun w5 hS5 => ?_) HSC ?_
                    rotate_left
                    · clear hS5
                      go_simp
                      try rfl
                    try simp only [Act.put, List.setIfInBounds_toArray, List.set_cons_zero, List.set_cons_succ]
                    refine Rg.Upto.takeA (i := 4) (v := ?_) rfl (by kernel_rfl) (by kernel_rfl) (by kernel_rfl) (of_decide_eq_true (by kernel_rfl)) (fun _ _ _ h => h) (by rfl) (fun w5 hS5 => ?_) HSC ?_
                    rotate_left
                    · have y0 := (hS5.cell (World.block_lt_of_cell? _ _ V0.out)).trans V0.out
                      have y1 := (hS5.cell (World.block_lt_of_cell? _ _ V1.out)).trans V1.out
                      clear hS5
                      go_simp
                      try rfl
                    try simp only [Act.put, List.setIfInBounds_toArray, List.set_cons_zero, List.set_cons_succ]
                    refine Rg.Upto.takeA (i := 5) (v := ?_) rfl (by kernel_rfl) (by kernel_rfl) (by kernel_rfl) (of_decide_eq_true (by kernel_rfl)) (fun _ _ _ h => h) (by rfl) (fun w5 hS5 => ?_) HSC ?_
                    rotate_left
                    · clear hS5
                      go_simp
                      try rfl
                    try simp only [Act.put, List.setIfInBounds_toArray, List.set_cons_zero, List.set_cons_succ]
                    refine Rg.Upto.takeA (i := 6) (v := ?_) rfl (by kernel_rfl) (by kernel_rfl) (by kernel_rfl) (of_decide_eq_true (by kernel_rfl)) (fun _ _ _ h => h) (by rfl) (fun w5 hS5 => ?_) HSC ?_
                    rotate_left
                    · clear hS5
                      go_simp
                      try rfl
                    try simp only [Act.put, List.setIfInBounds_toArray, List.set_cons_zero, List.set_cons_succ]
                    refine Rg.Upto.takeA (i := 7) (v := ?_) rfl (by kernel_rfl) (by kernel_rfl) (by kernel_rfl) (of_decide_eq_true (by kernel_rfl)) (fun _ _ _ h => h) (by rfl) (fun w5 hS5 => ?_) HSC ?_
                    rotate_left
                    · clear hS5
                      go_simp
                      try rfl
                    try simp only [Act.put, List.setIfInBounds_toArray, List.set_cons_zero, List.set_cons_succ]
                    refine Rg.Upto.takeA (i := 8) (v := ?_) rfl (by kernel_rfl) (by kernel_rfl) (by kernel_rfl) (of_decide_eq_true (by kernel_rfl)) (fun _ _ _ h => h) (by rfl) (fun w5 hS5 => ?_) HSC ?_
                    rotate_left
                    · clear hS5
                      go_simp
                      try rfl
                    try simp only [Act.put, List.setIfInBounds_toArray, List.set_cons_zero, List.set_cons_succ]
                    refine Rg.Upto.takeA (i := 9) (v := ?_) rfl (by kernel_rfl) (by kernel_rfl) (by kernel_rfl) (of_decide_eq_true (by kernel_rfl)) (fun _ _ _ h => h) (by rfl) (fun w5 hS5 => ?_) HSC ?_
                    rotate_left
                    · have y0 := (hS5.cell (World.block_lt_of_cell? _ _ T0.out)).trans T0.out
                      have y1 := (hS5.cell (World.block_lt_of_cell? _ _ T1.out)).trans T1.out
                      clear hS5
                      go_simp
                      try rfl
                    try simp only [Act.put, List.setIfInBounds_toArray, List.set_cons_zero, List.set_cons_succ]
                    refine Rg.Upto.takeA (i := 10) (v := ?_) rfl (by kernel_rfl) (by kernel_rfl) (by kernel_rfl) (of_decide_eq_true (by kernel_rfl)) (fun _ _ _ h => h) (by rfl) (fun w5 hS5 => ?_) HSC ?_
                    rotate_left
                    · clear hS5
                      go_simp
                      try rfl
                    try simp only [Act.put, List.setIfInBounds_toArray, List.set_cons_zero, List.set_cons_succ]
                    refine Rg.Upto.takeA (i := 11) (v := ?_) rfl (by kernel_rfl) (by kernel_rfl) (by kernel_rfl) (of_decide_eq_true (by kernel_rfl)) (fun _ _ _ h => h) (by rfl) (fun w5 hS5 => ?_) HSC ?_
                    rotate_left
                    · clear hS5
                      go_simp
                      try rfl
                    try simp only [Act.put, List.setIfInBounds_toArray, List.set_cons_zero, List.set_cons_succ]
                    refine Rg.Upto.takeA (i := 12) (v := ?_) rfl (by kernel_rfl) (by kernel_rfl) (by kernel_rfl) (of_decide_eq_true (by kernel_rfl)) (fun _ _ _ h => h) (by rfl) (fun w5 hS5 => ?_) HSC ?_
                    rotate_left
                    · have y0 := (hS5.cell (World.block_lt_of_cell? _ _ U0.out)).trans U0.out
                      have y1 := (hS5.cell (World.block_lt_of_cell? _ _ U1.out)).trans U1.out
                      clear hS5
                      go_simp
                      try rfl
                    try simp only [Act.put, List.setIfInBounds_toArray, List.set_cons_zero, List.set_cons_succ]
                    refine Rg.Upto.takeA (i := 13) (v := ?_) rfl (by kernel_rfl) (by kernel_rfl) (by kernel_rfl) (of_decide_eq_true (by kernel_rfl)) (fun _ _ _ h => h) (by rfl) (fun w5 hS5 => ?_) HSC ?_
                    rotate_left
                    · clear hS5
                      go_simp
                      try rfl
                    try simp only [Act.put, List.setIfInBounds_toArray, List.set_cons_zero, List.set_cons_succ]
                    clear HSC
                    refine Rg.Upto.done (by kernel_rfl) ?_
                    have HB9D : Hid (wr.drew.heap[b9]? = some (.cells ds 41 (0, 0))) := Lib.hid HB9.out
                    have HBKD : Hid (wr.drew.heap[cb]? = some (.cells #[.string f0, .slice (some ⟨b9, 0, none⟩) f1.length c9] 34 (0, 0))) := Lib.hid HBK.out
                    have HB22D := Lib.hid HB22.out.drew
                    have HFXD : Hid (Fx w0.heap.size wr.drew (some ⟨b9, 0, none⟩) f1 k) := Lib.hid HFX.out
                    generalize wr.drew = wd at HB9D HBKD HB22D HFXD ⊢
                    try simp only [beq_self_eq_true, Bool.not_true, Bool.or_false]
                    obtain ⟨p1, -⟩ := Hp.blk_cell HBKD.out 1 rfl
                    obtain ⟨z0, y0⟩ := Hp.blk_cell HB9D.out (k * 2) (by rw [Nat.mul_comm]; exact HDS.out.1)
                    obtain ⟨z1, y1⟩ := Hp.blk_cell HB9D.out (k * 2 + 1) (by rw [Nat.mul_comm]; exact HDS.out.2)
                    have hk1 := Hp.blk_set HB9D.out (k * 2) (.string { data := #[] })
                    have hk2 := Hp.blk_set hk1 (k * 2 + 1) (.int .i64 0)
                    obtain ⟨z2, y2⟩ := Hp.blk_cell hk1 (k * 2 + 1) (by rw [Array.getElem?_setIfInBounds_ne (by omega), Nat.mul_comm]; exact HDS.out.2)
                    have hgb := blk_ne HBKD.out HB9D.out (by decide)
                    have HBK2 := Lib.hid (Hp.blk_far (Hp.blk_far HBKD.out ⟨b9, k * 2, none⟩ hgb (.string { data := #[] })) ⟨b9, k * 2 + 1, none⟩ hgb (.int .i64 0))
                    have HFX2 := Lib.hid (HFXD.out.next rfl HB9D.out (by rw [Nat.mul_comm 2 k]; exact hk2))
                    have hbs := below_set HB22D.out HB22D.out.size hb9 (x := k * 2) (.string { data := #[] })
                    have HB2 := Lib.hid (below_set hbs hbs.size hb9 (x := k * 2 + 1) (.int .i64 0))
                    clear hk1 hk2 hgb hbs HBKD HB9D HFXD HB22D HFX HBK HB22 HBW HB9 U0 U1 V0 V1 T0 T1
                    go_wp2_with (fail)
                    go_roundw
                    case rel => exact ⟨k + 1, by omega, by go_num, HFX2, HBK2, HB2⟩
                    case measure => simp [intOf]; omega
                  · obtain rfl : k = f1.length := by omega
                    have HIT2 := Lib.hid (HIT.out.below HB22.out)
                    have HCY3 := Lib.hid (HCY2.out wr HIT2.out)
                    clear HFX HBK
                    go_upto_region 30 with (first
                      | (go_at_call 14; go_loud ((with_reducible refine HCY3.out.mono ?_); rintro e w7 ⟨v9, rfl, hR, hb⟩; (obtain ⟨A8, c8, h8, hle8, hC8⟩ := R_reads hR); subst h8; (have HR8 := Lib.hid hC8); (have HLE8 := Lib.hid hle8); (replace HBW := Lib.hid (HBW.out.trans (hb.mono HBW.out.size))); clear hR hb hC8 hle8 HCY3)))
                    obtain ⟨db, hdb⟩ : ∃ db, db = w7.heap.size := ⟨_, rfl⟩
                    have hbn : Below w7.heap.size w7 (w7.alloc (.cells #[.string f0, .slice A8 f1.length c8] 34)) := (Below.refl _ w7).alloc (Nat.le_refl _) _
                    have HBK := Lib.hid (Hp.blk_new w7 (.cells #[.string f0, .slice A8 f1.length c8] 34))
                    replace HR8 := Lib.hid (C_below HR8.out hbn)
                    replace HBW := Lib.hid (HBW.out.trans (hbn.mono HBW.out.size))
                    clear hbn p1
                    generalize (w7.alloc (.cells #[.string f0, .slice A8 f1.length c8] 34)) = w8 at HBK HR8 HBW ⊢
                    simp only [← hdb] at HBK ⊢
                    clear hdb
                    have T0 := Lib.hid ((HBW.out.cell (World.block_lt_of_cell? _ _ R0.out)).trans R0.out)
                    have T1 := Lib.hid ((HBW.out.cell (World.block_lt_of_cell? _ _ R1.out)).trans R1.out)
                    have HSC7 := Lib.hid (sc_call (w := w8.drew) (s0 := f0) (s1 := f0) hx15 HR8.out HLE8.out (C_below HC1.out HBW.out.drew) HLE1.out)
                    have HBWD := Lib.hid HBW.out.drew
                    refine Rg.Upto.start (fun w' => Below w8.heap.size w8 w') 1000 (by kernel_rfl) (Below.refl _ w8).drew (fun HSC => ?_)
                    refine Rg.Upto.takeA (i := 0) (v := ?_) rfl (by kernel_rfl) (by kernel_rfl) (by kernel_rfl) (of_decide_eq_true (by kernel_rfl)) (fun _ _ _ h => h) (by rfl) (fun w5 hS5 => ?_) HSC ?_
                    rotate_left
                    · clear hS5
                      go_simp
                      try rfl
                    try simp only [Act.put, List.setIfInBounds_toArray, List.set_cons_zero, List.set_cons_succ]
                    refine Rg.Upto.takeA (i := 1) (v := ?_) rfl (by kernel_rfl) (by kernel_rfl) (by kernel_rfl) (of_decide_eq_true (by kernel_rfl)) (fun _ _ _ h => h) (by rfl) (fun w5 hS5 => ?_) HSC ?_
                    rotate_left
                    · clear hS5
                      go_simp
                      try rfl
                    try simp only [Act.put, List.setIfInBounds_toArray, List.set_cons_zero, List.set_cons_succ]
                    refine Rg.Upto.takeA (i := 2) (v := ?_) rfl (by kernel_rfl) (by kernel_rfl) (by kernel_rfl) (of_decide_eq_true (by kernel_rfl)) (fun _ _ _ h => h) (by rfl) (fun w5 hS5 => ?_) HSC ?_
                    rotate_left
                    · clear hS5
                      go_simp
                      try rfl
                    try simp only [Act.put, List.setIfInBounds_toArray, List.set_cons_zero, List.set_cons_succ]
                    refine Rg.Upto.takeA (i := 3) (v := ?_) rfl (by kernel_rfl) (by kernel_rfl) (by kernel_rfl) (of_decide_eq_true (by kernel_rfl)) (fun _ _ _ h => h) (by rfl) (fun w5 hS5 => ?_) HSC ?_
                    rotate_left
                    · clear hS5
                      go_simp
                      try rfl
                    try simp only [Act.put, List.setIfInBounds_toArray, List.set_cons_zero, List.set_cons_succ]
                    refine Rg.Upto.takeA (i := 4) (v := ?_) rfl (by kernel_rfl) (by kernel_rfl) (by kernel_rfl) (of_decide_eq_true (by kernel_rfl)) (fun _ _ _ h => h) (by rfl) (fun w5 hS5 => ?_) HSC ?_
                    rotate_left
                    · clear hS5
                      go_simp
                      try rfl
                    try simp only [Act.put, List.setIfInBounds_toArray, List.set_cons_zero, List.set_cons_succ]
                    refine Rg.Upto.takeA (i := 5) (v := ?_) rfl (by kernel_rfl) (by kernel_rfl) (by kernel_rfl) (of_decide_eq_true (by kernel_rfl)) (fun _ _ _ h => h) (by rfl) (fun w5 hS5 => ?_) HSC ?_
                    rotate_left
                    · clear hS5
                      go_simp
                      try rfl
                    try simp only [Act.put, List.setIfInBounds_toArray, List.set_cons_zero, List.set_cons_succ]
                    refine Rg.Upto.takeA (i := 6) (v := ?_) rfl (by kernel_rfl) (by kernel_rfl) (by kernel_rfl) (of_decide_eq_true (by kernel_rfl)) (fun _ _ _ h => h) (by rfl) (fun w5 hS5 => ?_) HSC ?_
                    rotate_left
                    · clear hS5
                      go_simp
                      try rfl
                    try simp only [Act.put, List.setIfInBounds_toArray, List.set_cons_zero, List.set_cons_succ]
                    refine Rg.Upto.takeA (i := 7) (v := ?_) rfl (by kernel_rfl) (by kernel_rfl) (by kernel_rfl) (of_decide_eq_true (by kernel_rfl)) (fun _ _ _ h => h) (by rfl) (fun w5 hS5 => ?_) HSC ?_
                    rotate_left
                    · have p0 := (Hp.blk_cell ((hS5.block _ (Hp.blk_lt HBK.out)).trans HBK.out) 0 rfl).1
                      have p1 := (Hp.blk_cell ((hS5.block _ (Hp.blk_lt HBK.out)).trans HBK.out) 1 rfl).1
                      clear hS5
                      go_simp
                      try rfl
                    try simp only [Act.put, List.setIfInBounds_toArray, List.set_cons_zero, List.set_cons_succ]
                    refine Rg.Upto.takeA (i := 8) (v := ?_) rfl (by kernel_rfl) (by kernel_rfl) (by kernel_rfl) (of_decide_eq_true (by kernel_rfl)) (fun _ _ _ h => h) (by rfl) (fun w5 hS5 => ?_) HSC ?_
                    rotate_left
                    · clear hS5
                      go_simp
                      try rfl
                    try simp only [Act.put, List.setIfInBounds_toArray, List.set_cons_zero, List.set_cons_succ]
                    refine Rg.Upto.takeA (i := 9) (v := ?_) rfl (by kernel_rfl) (by kernel_rfl) (by kernel_rfl) (of_decide_eq_true (by kernel_rfl)) (fun _ _ _ h => h) (by rfl) (fun w5 hS5 => ?_) HSC ?_
                    rotate_left
                    · clear hS5
                      go_simp
                      try rfl
                    try simp only [Act.put, List.setIfInBounds_toArray, List.set_cons_zero, List.set_cons_succ]
                    refine Rg.Upto.takeA (i := 10) (v := ?_) rfl (by kernel_rfl) (by kernel_rfl) (by kernel_rfl) (of_decide_eq_true (by kernel_rfl)) (fun _ _ _ h => h) (by rfl) (fun w5 hS5 => ?_) HSC ?_
                    rotate_left
                    · clear hS5
                      go_simp
                      try rfl
                    try simp only [Act.put, List.setIfInBounds_toArray, List.set_cons_zero, List.set_cons_succ]
                    refine Rg.Upto.takeA (i := 11) (v := ?_) rfl (by kernel_rfl) (by kernel_rfl) (by kernel_rfl) (of_decide_eq_true (by kernel_rfl)) (fun _ _ _ h => h) (by rfl) (fun w5 hS5 => ?_) HSC ?_
                    rotate_left
                    · have y0 := (hS5.cell (World.block_lt_of_cell? _ _ T0.out)).trans T0.out
                      have y1 := (hS5.cell (World.block_lt_of_cell? _ _ T1.out)).trans T1.out
                      clear hS5
                      go_simp
                      try rfl
                    try simp only [Act.put, List.setIfInBounds_toArray, List.set_cons_zero, List.set_cons_succ]
                    refine Rg.Upto.one (i := 12) rfl (by kernel_rfl) (by rfl) (fun KK hK => ?_)
                    go_simp
                    (with_reducible refine HSC7.out.mono ?_)
                    rintro e w9 ⟨rfl, hb⟩
                    rw [scB_refl]
                    refine hK.out _ _ (HSC.trans (hb.mono HSC.size)) ?_
                    replace HSC := HSC.trans (hb.mono HSC.size)
                    replace HBWD := Lib.hid (HBWD.out.trans (hb.mono HBWD.out.size))
                    clear hK KK hb
                    try simp only [Act.put, List.setIfInBounds_toArray, List.set_cons_zero, List.set_cons_succ]
                    refine Rg.Upto.takeA (i := 13) (v := ?_) rfl (by kernel_rfl) (by kernel_rfl) (by kernel_rfl) (of_decide_eq_true (by kernel_rfl)) (fun _ _ _ h => h) (by rfl) (fun w5 hS5 => ?_) HSC ?_
                    rotate_left
                    · clear hS5
                      go_simp
                      try rfl
                    try simp only [Act.put, List.setIfInBounds_toArray, List.set_cons_zero, List.set_cons_succ]
                    refine Rg.Upto.takeA (i := 14) (v := ?_) rfl (by kernel_rfl) (by kernel_rfl) (by kernel_rfl) (of_decide_eq_true (by kernel_rfl)) (fun _ _ _ h => h) (by rfl) (fun w5 hS5 => ?_) HSC ?_
                    rotate_left
                    · clear hS5
                      go_simp
                      try rfl
                    try simp only [Act.put, List.setIfInBounds_toArray, List.set_cons_zero, List.set_cons_succ]
                    clear HSC
                    refine Rg.Upto.done (by kernel_rfl) ?_
                    go_wp2_with (fail)
                    go_ret
                    exact ⟨rfl, HBWD.out⟩
        · have HN : Hid (∀ (A5 : Option Addr) (c5 : Nat), Kd.C k34 wr A5 l.length l → l.length ≤ c5 → _) := Lib.hid (fun A5 c5 h1 h2 => new_no (A := A5) (cp := c5) h1 h2 hE)
          obtain ⟨A5, c5, h5, hle5, hC5⟩ := R_reads HIN2.out
          subst h5
          have HN2 := Lib.hid (HN.out A5 c5 hC5 hle5)
          obtain ⟨⟨r1, r2⟩, hne⟩ : ∃ r, r = newE l := ⟨_, rfl⟩
          rw [← hne] at HN2 hE
          have b0 : (r2 != 0) = true := by simpa using hE
          clear hC5 hle5 HIN2 hE hne HN
          go_wp2_with (first
            | (go_at_call 11; go_loud ((with_reducible refine HN2.out.mono ?_); rintro e w1 ⟨rfl, hb⟩; (replace HB := Lib.hid (HB.out.trans (hb.mono HB.out.size))); clear hb HN2)))
          go_ret
          exact ⟨rfl, HB.out⟩
end Go.Proofs.Yteankgbcmfkfnaa.Cl

/- Same. -/
import Derived.Test.YteankgbcmfkfnaaFi
import Derived.Test.YteankgbcmfkfnaaFn
import Derived.Deep.Cut
import Derived.Deep.DeepCutAuto
namespace Go.Proofs.Yteankgbcmfkfnaa.Cl
open Go Go.RowKit Go.Proofs.Yteankgbcmfkfnaa.Hp Go.Proofs.Yteankgbcmfkfnaa.PH Go.Proofs.Yteankgbcmfkfnaa.Eo
open Go.Proofs.YteankgbcmfkfnaaW.PrintWords (bt Kd Drawn0)
open Go.Proofs.YteankgbcmfkfnaaW.PrintWords.Kd (C_below R_reads R_lower)
set_option linter.unusedVariables false
set_option linter.unusedSimpArgs false

def ckey (x : S34) : List UInt8 × List (List UInt8 × Int) := (nk x.f0, x.f1.map fkey)
def smB (a b : List S34) : Bool := decide (a.map ckey = b.map ckey)
theorem scB_ckey (x y : S34) : scB x y = decide (ckey x = ckey y) := by
  unfold scB ckey
  simp
theorem smB_refl (a : List S34) : smB a a = true := by simp [smB]
theorem same_l0 (a b : List S34) (hl : a.length = b.length) (h16 : a.length ≤ 16) (h15 : ∀ x ∈ a, x.f1.length ≤ 15) : ∀ (d i : Nat), i + d = a.length → Eo (fun k => windrowref10_Same.l0 k a b (i : Nat)) (decide ((a.drop i).map ckey = (b.drop i).map ckey))
  | 0, i, h => by
    rw [List.drop_eq_nil_of_le (by omega), List.drop_eq_nil_of_le (by omega)]
    refine (Eo.of (g := fun _ => some true) fun _ => rfl).round fun k => ?_
    rw [windrowref10_Same.l0, if_neg (by omega)]
  | d + 1, i, h => by
    have ih := same_l0 a b hl h16 h15 d (i + 1) (by omega)
    have hx15 := h15 _ (rd34_mem a i (by omega))
    rw [drop_cons34 a i (by omega), drop_cons34 b i (by omega)]
    generalize hx : rd_T34 a (i : Nat) = x at hx15
    generalize hy : rd_T34 b (i : Nat) = y
    have hsc := sc_eo x y hx15
    rw [scB_ckey] at hsc
    refine Eo.round (g := fun k => (windrowref10_SameClass.f k x.f0 x.f1 y.f0 y.f1).bind fun t143 => (if t143 = true then (windrowref10_Same.l0 k a b (wrap64 ((i : Int) + 1))) else (some false))) (Eo.bind (f := fun t143 k => (if t143 = true then (windrowref10_Same.l0 k a b (wrap64 ((i : Int) + 1))) else (some false))) hsc ?_) (fun k => ?_)
    · by_cases he : ckey x = ckey y
      · have e : decide ((x :: a.drop (i + 1)).map ckey = (y :: b.drop (i + 1)).map ckey) = decide ((a.drop (i + 1)).map ckey = (b.drop (i + 1)).map ckey) := by simp [he]
        rw [e]
        refine Eo.ite_pos (by simp [he]) ?_
        rw [w64 (by omega) (by omega)]
        exact ih
      · rw [decide_eq_false (p := (x :: a.drop (i + 1)).map ckey = (y :: b.drop (i + 1)).map ckey) (by simp [he])]
        exact Eo.ite_neg (by simp [he]) (Eo.of fun _ => rfl)
    · rw [windrowref10_Same.l0, if_pos (by omega), if_pos (by omega), if_pos (by omega), hx, hy]
theorem same_eo (a b : List S34) (h16 : a.length ≤ 16) (h15 : ∀ x ∈ a, x.f1.length ≤ 15) : Eo (fun k => windrowref10_Same.f k a b) (smB a b) := by
  unfold windrowref10_Same.f smB
  by_cases hl : a.length = b.length
  · refine Eo.ite_pos (by omega) ?_
    have := same_l0 a b hl h16 h15 a.length 0 (by omega)
    rw [List.drop_zero, List.drop_zero] at this
    exact this
  · rw [decide_eq_false (fun z => hl (by have := congrArg List.length z; simpa using this))]
    exact Eo.ite_neg (by omega) (Eo.of fun _ => rfl)
theorem rsame_call (A0 A1 : Option Addr) (c0 c1 : Nat) (a b : List S34) (w : World) (ha : Kd.C k34 w A0 a.length a) (hca : a.length ≤ c0) (hb : Kd.C k34 w A1 b.length b) (hcb : b.length ≤ c1) (h16 : a.length ≤ 16) (h15 : ∀ x ∈ a, x.f1.length ≤ 15) :
    Calls Try.prog 18 #[.slice A0 a.length c0, .slice A1 b.length c1] w fun e w' => e = .returned (.bool (smB a b)) ∧ Below w.heap.size w w' := by
  obtain ⟨k, hk⟩ := (same_eo a b h16 h15).get
  exact windrowref10_Same.calls k A0 c0 a A1 c1 b _ w ha hca hb hcb hk
set_option maxHeartbeats 4000000 in
set_option maxRecDepth 100000 in
theorem same_nil {w : World} {t : Nat} {L : List S34} {M : List Int} {A Am : Option Addr} {ca cm : Nat} (h : IsT w t L M A Am ca cm) :
    Calls Try.prog 17 #[.pointer (some ⟨t, 0, none⟩), .pointer none] w fun e w' => e = .returned (.bool ((L.length : Int) == 0)) ∧ Below w.heap.size w w' := by
  have HT := Lib.hid h
  clear h
  by_cases h0 : L.length = 0
  · have e1 : ((L.length : Int) == 0) = true := by rw [h0]; rfl
    have HCO : Hid (Calls Try.prog 13 #[.pointer (some ⟨t, 0, none⟩)] w fun e w' => e = .returned (.int .i64 0) ∧ w' = w) := Lib.hid (by
      have := count_call HT.out
      rw [h0] at this
      exact this)
    rw [e1]
    clear e1 h0
    go_enter Try.func17, Try.ntmps17
    go_wp2_with (first
      | (go_at_call 13; go_loud (first
          | ((with_reducible refine (count_nil _).mono ?_); rintro e w3 ⟨rfl, hw⟩; obtain rfl := hw.symm)
          | ((with_reducible refine HCO.out.mono ?_); rintro e w3 ⟨rfl, hw⟩; obtain rfl := hw.symm))))
    go_loopw [16] (fun v16 wr => v16 = .int .i64 0 ∧ wr = w) (fun v16 _ => 0)
    case atStart => exact ⟨rfl, rfl⟩
    case round =>
      obtain ⟨rfl, rfl⟩ := hrel
      go_wp2_with (fail)
      go_ret
      exact ⟨rfl, Below.refl _ _⟩
  · have e1 : ((L.length : Int) == 0) = false := beq_eq_false_iff_ne.2 (by omega)
    have HCO := Lib.hid (count_call HT.out)
    rw [e1]
    have e2 : ((L.length : Int) != 0) = true := bne_iff_ne.2 (by omega)
    clear h0
    go_enter Try.func17, Try.ntmps17
    go_wp2_with (first
      | (go_at_call 13; go_loud (first
          | ((with_reducible refine (count_nil _).mono ?_); rintro e w3 ⟨rfl, hw⟩; obtain rfl := hw.symm)
          | ((with_reducible refine HCO.out.mono ?_); rintro e w3 ⟨rfl, hw⟩; obtain rfl := hw.symm))))
    go_ret
    exact ⟨rfl, Below.refl _ _⟩
theorem two (w : World) (o1 o2 : Obj) : ((w.alloc o1).alloc o2).drew.heap[w.heap.size]? = some o1 ∧ ((w.alloc o1).alloc o2).drew.heap[w.heap.size + 1]? = some o2 ∧ Below w.heap.size w ((w.alloc o1).alloc o2).drew := by
  refine ⟨Hp.blk_alloc (Hp.blk_new w o1) _, ?_, (((Below.refl w.heap.size w).alloc (Nat.le_refl _) o1).alloc (by simp) o2).drew⟩
  have := Hp.blk_new (w.alloc o1) o2
  rw [show (w.alloc o1).heap.size = w.heap.size + 1 by simp] at this
  exact this
attribute [local go_sem high] eqA41
set_option maxHeartbeats 8000000 in
set_option maxRecDepth 100000 in
theorem same_call {w : World} {s t : Nat} {a b : List S34} {M N : List Int} {A Am B Bm : Option Addr} {ca cm cb cn : Nat} (hs : IsT w s a M A Am ca cm) (ht : IsT w t b N B Bm cb cn) (h15 : ∀ x ∈ a, x.f1.length ≤ 15) :
    Calls Try.prog 17 #[.pointer (some ⟨s, 0, none⟩), .pointer (some ⟨t, 0, none⟩)] w fun e w' => e = .returned (.bool (smB a b)) ∧ Below w.heap.size w w' := by
  have HS := Lib.hid hs
  have HT := Lib.hid ht
  have HB := Lib.hid (Below.refl w.heap.size w)
  have H15 := Lib.hid h15
  clear hs ht h15
  by_cases hl : a.length = b.length
  · have HCO := Lib.hid (count_call HS.out)
    have HCT : Hid (Calls Try.prog 13 #[.pointer (some ⟨t, 0, none⟩)] w fun e w' => e = .returned (.int .i64 a.length) ∧ w' = w) := Lib.hid (by
      have := count_call HT.out
      rw [← hl] at this
      exact this)
    obtain ⟨rr, hrr⟩ : ∃ rr, rr = smB a b := ⟨_, rfl⟩
    have HF : Hid (rr = decide ((a.drop 0).map ckey = (b.drop 0).map ckey)) := Lib.hid (by rw [hrr]; rfl)
    rw [← hrr]
    have HL := Lib.hid hl
    have ha16 := HS.out.l16
    clear hrr hl
    go_enter Try.func17, Try.ntmps17
    go_wp2_with (first
      | (go_at_call 13; go_loud (first
          | ((with_reducible refine HCO.out.mono ?_); rintro e w3 ⟨rfl, hw⟩; obtain rfl := hw.symm)
          | ((with_reducible refine HCT.out.mono ?_); rintro e w3 ⟨rfl, hw⟩; obtain rfl := hw.symm))))
    go_loopw [16] (fun v16 wr => ∃ k : Nat, k ≤ a.length ∧ v16 = .int .i64 k ∧ Hid (IsT wr s a M A Am ca cm) ∧ Hid (IsT wr t b N B Bm cb cn) ∧ Hid (Below w.heap.size w wr) ∧ Hid (rr = decide ((a.drop k).map ckey = (b.drop k).map ckey))) (fun v16 _ => a.length - (intOf v16).toNat)
    case atStart => exact ⟨0, Nat.zero_le _, rfl, HS, HT, HB, HF⟩
    case round =>
      clear HS HT HB HF HCO HCT
      obtain ⟨k, hk, rfl, HS, HT, HB, HF⟩ := hrel
      by_cases hkl : k < a.length
      · have hkb : k < b.length := by rw [← HL.out]; exact hkl
        obtain ⟨adx, Ax, cx, hA, r0, r1, hlx, hCX⟩ := at34 HS.out.ll k hkl
        subst hA
        obtain ⟨ady, Ay, cy, hA, s0, s1, hly, hCY⟩ := at34 HT.out.ll k hkb
        subst hA
        have HF2 : Hid (rr = decide (ckey (rd_T34 a k) = ckey (rd_T34 b k) ∧ (a.drop (k + 1)).map ckey = (b.drop (k + 1)).map ckey)) := Lib.hid (by rw [HF.out]; refine decide_eq_decide.2 ?_; rw [drop_cons34 a k hkl, drop_cons34 b k hkb, List.map_cons, List.map_cons, List.cons.injEq])
        have hf15 := H15.out _ (rd34_mem a k hkl)
        obtain ⟨x, hx⟩ : ∃ x, x = rd_T34 a (k : Int) := ⟨_, rfl⟩
        obtain ⟨y, hy⟩ : ∃ y, y = rd_T34 b (k : Int) := ⟨_, rfl⟩
        rw [← hx] at r0 r1 HF2 hCX hlx hf15
        rw [← hy] at s0 s1 HF2 hCY hly
        obtain ⟨f0, f1⟩ := x
        obtain ⟨g0, g1⟩ := y
        simp only at r0 r1 s0 s1 HF2 hCX hCY hlx hly hf15
        have X0 := Lib.hid r0
        have X1 := Lib.hid r1
        have Y0 := Lib.hid s0
        have Y1 := Lib.hid s1
        have CX := Lib.hid hCX
        have CY := Lib.hid hCY
        clear hx hy HF r0 r1 s0 s1 hlx hly hCX hCY
        go_upto_region 6 with (fail)
        refine Rg.Upto.start (fun w' => Below wr.heap.size wr w') 1000 (by kernel_rfl) (Below.refl _ wr).drew (fun HSC => ?_)
        refine Rg.Upto.takeA (i := 0) (v := ?_) rfl (by kernel_rfl) (by kernel_rfl) (by kernel_rfl) (of_decide_eq_true (by kernel_rfl)) (fun _ _ _ h => h) (by rfl) (fun w5 hS5 => ?_) HSC ?_
        rotate_left
        · clear hS5
          go_simp
          try rfl
        try simp only [Act.put, List.setIfInBounds_toArray, List.set_cons_zero, List.set_cons_succ]
        refine Rg.Upto.takeA (i := 1) (v := ?_) rfl (by kernel_rfl) (by kernel_rfl) (by kernel_rfl) (of_decide_eq_true (by kernel_rfl)) (fun _ _ _ h => h) (by rfl) (fun w5 hS5 => ?_) HSC ?_
        rotate_left
        · clear hS5
          go_simp
          try rfl
        try simp only [Act.put, List.setIfInBounds_toArray, List.set_cons_zero, List.set_cons_succ]
        refine Rg.Upto.takeA (i := 2) (v := ?_) rfl (by kernel_rfl) (by kernel_rfl) (by kernel_rfl) (of_decide_eq_true (by kernel_rfl)) (fun _ _ _ h => h) (by rfl) (fun w5 hS5 => ?_) HSC ?_
        rotate_left
        · clear hS5
          go_simp
          try rfl
        try simp only [Act.put, List.setIfInBounds_toArray, List.set_cons_zero, List.set_cons_succ]
        refine Rg.Upto.takeA (i := 3) (v := ?_) rfl (by kernel_rfl) (by kernel_rfl) (by kernel_rfl) (of_decide_eq_true (by kernel_rfl)) (fun _ _ _ h => h) (by rfl) (fun w5 hS5 => ?_) HSC ?_
        rotate_left
        · have x0 := (Hp.blk_cell ((HS.out.below (below_any hS5)).blk) 0 rfl).1
          clear hS5
          go_simp
          try rfl
        try simp only [Act.put, List.setIfInBounds_toArray, List.set_cons_zero, List.set_cons_succ]
        refine Rg.Upto.takeA (i := 4) (v := ?_) rfl (by kernel_rfl) (by kernel_rfl) (by kernel_rfl) (of_decide_eq_true (by kernel_rfl)) (fun _ _ _ h => h) (by rfl) (fun w5 hS5 => ?_) HSC ?_
        rotate_left
        · clear hS5
          go_simp
          try rfl
        try simp only [Act.put, List.setIfInBounds_toArray, List.set_cons_zero, List.set_cons_succ]
        refine Rg.Upto.takeA (i := 5) (v := ?_) rfl (by kernel_rfl) (by kernel_rfl) (by kernel_rfl) (of_decide_eq_true (by kernel_rfl)) (fun _ _ _ h => h) (by rfl) (fun w5 hS5 => ?_) HSC ?_
        rotate_left
        · clear hS5
          go_simp
          try rfl
        try simp only [Act.put, List.setIfInBounds_toArray, List.set_cons_zero, List.set_cons_succ]
        refine Rg.Upto.takeA (i := 6) (v := ?_) rfl (by kernel_rfl) (by kernel_rfl) (by kernel_rfl) (of_decide_eq_true (by kernel_rfl)) (fun _ _ _ h => h) (by rfl) (fun w5 hS5 => ?_) HSC ?_
        rotate_left
        · have y0 := (hS5.cell (World.block_lt_of_cell? _ _ X0.out)).trans X0.out
          have y1 := (hS5.cell (World.block_lt_of_cell? _ _ X1.out)).trans X1.out
          clear hS5
          go_simp
          try rfl
        try simp only [Act.put, List.setIfInBounds_toArray, List.set_cons_zero, List.set_cons_succ]
        refine Rg.Upto.takeA (i := 7) (v := ?_) rfl (by kernel_rfl) (by kernel_rfl) (by kernel_rfl) (of_decide_eq_true (by kernel_rfl)) (fun _ _ _ h => h) (by rfl) (fun w5 hS5 => ?_) HSC ?_
        rotate_left
        · clear hS5
          go_simp
          try rfl
        try simp only [Act.put, List.setIfInBounds_toArray, List.set_cons_zero, List.set_cons_succ]
        refine Rg.Upto.takeA (i := 8) (v := ?_) rfl (by kernel_rfl) (by kernel_rfl) (by kernel_rfl) (of_decide_eq_true (by kernel_rfl)) (fun _ _ _ h => h) (by rfl) (fun w5 hS5 => ?_) HSC ?_
        rotate_left
        · clear hS5
          go_simp
          try rfl
        try simp only [Act.put, List.setIfInBounds_toArray, List.set_cons_zero, List.set_cons_succ]
        refine Rg.Upto.takeA (i := 9) (v := ?_) rfl (by kernel_rfl) (by kernel_rfl) (by kernel_rfl) (of_decide_eq_true (by kernel_rfl)) (fun _ _ _ h => h) (by rfl) (fun w5 hS5 => ?_) HSC ?_
        rotate_left
        · clear hS5
          go_simp
          try rfl
        try simp only [Act.put, List.setIfInBounds_toArray, List.set_cons_zero, List.set_cons_succ]
        refine Rg.Upto.takeA (i := 10) (v := ?_) rfl (by kernel_rfl) (by kernel_rfl) (by kernel_rfl) (of_decide_eq_true (by kernel_rfl)) (fun _ _ _ h => h) (by rfl) (fun w5 hS5 => ?_) HSC ?_
        rotate_left
        · have x0 := (Hp.blk_cell ((HT.out.below (below_any hS5)).blk) 0 rfl).1
          clear hS5
          go_simp
          try rfl
        try simp only [Act.put, List.setIfInBounds_toArray, List.set_cons_zero, List.set_cons_succ]
        refine Rg.Upto.takeA (i := 11) (v := ?_) rfl (by kernel_rfl) (by kernel_rfl) (by kernel_rfl) (of_decide_eq_true (by kernel_rfl)) (fun _ _ _ h => h) (by rfl) (fun w5 hS5 => ?_) HSC ?_
        rotate_left
        · clear hS5
          go_simp
          try rfl
        try simp only [Act.put, List.setIfInBounds_toArray, List.set_cons_zero, List.set_cons_succ]
        refine Rg.Upto.takeA (i := 12) (v := ?_) rfl (by kernel_rfl) (by kernel_rfl) (by kernel_rfl) (of_decide_eq_true (by kernel_rfl)) (fun _ _ _ h => h) (by rfl) (fun w5 hS5 => ?_) HSC ?_
        rotate_left
        · clear hS5
          go_simp
          try rfl
        try simp only [Act.put, List.setIfInBounds_toArray, List.set_cons_zero, List.set_cons_succ]
        refine Rg.Upto.takeA (i := 13) (v := ?_) rfl (by kernel_rfl) (by kernel_rfl) (by kernel_rfl) (of_decide_eq_true (by kernel_rfl)) (fun _ _ _ h => h) (by rfl) (fun w5 hS5 => ?_) HSC ?_
        rotate_left
        · have y0 := (hS5.cell (World.block_lt_of_cell? _ _ Y0.out)).trans Y0.out
          have y1 := (hS5.cell (World.block_lt_of_cell? _ _ Y1.out)).trans Y1.out
          clear hS5
          go_simp
          try rfl
        try simp only [Act.put, List.setIfInBounds_toArray, List.set_cons_zero, List.set_cons_succ]
        refine Rg.Upto.cases (L := [14, 15]) (by kernel_rfl) (by simp) (fun i hi => ?_)
        simp only [List.mem_cons, List.not_mem_nil, or_false] at hi
        rcases hi with rfl | rfl
        · refine ⟨_, rfl, rfl, fun KK hK => ?_⟩
          go_simp
          refine hK.out _ _ (HSC.alloc HSC.size _) ?_
          clear hK KK
          try simp only [Act.put, List.setIfInBounds_toArray, List.set_cons_zero, List.set_cons_succ]
          refine Rg.Upto.one (i := 15) rfl (by kernel_rfl) (by rfl) (fun KK hK => ?_)
          go_simp
          refine hK.out _ _ ((HSC.alloc HSC.size _).alloc (Nat.le_trans HSC.size (by simp)) _) ?_
          clear hK KK
          try simp only [Act.put, List.setIfInBounds_toArray, List.set_cons_zero, List.set_cons_succ]
          refine Rg.Upto.one (i := 16) rfl (by kernel_rfl) (by rfl) (fun KK hK => ?_)
          go_simp
          refine hK.out _ _ (below_any (two wr _ _).2.2) ?_
          clear hK KK
          try simp only [Act.put, List.setIfInBounds_toArray, List.set_cons_zero, List.set_cons_succ]
          refine Rg.Upto.one (i := 17) rfl (by kernel_rfl) (by rfl) (fun KK hK => ?_)
          go_simp
          refine hK.out _ _ (below_any (two wr _ _).2.2) ?_
          clear hK KK
          try simp only [Act.put, List.setIfInBounds_toArray, List.set_cons_zero, List.set_cons_succ]
          refine Rg.Upto.done (by kernel_rfl) ?_
          have BX := Lib.hid (two wr (.cells #[.string f0, .slice Ax f1.length cx] 34) (.cells #[.string g0, .slice Ay g1.length cy] 34)).1
          have BY := Lib.hid (two wr (.cells #[.string f0, .slice Ax f1.length cx] 34) (.cells #[.string g0, .slice Ay g1.length cy] 34)).2.1
          have HQ := Lib.hid (two wr (.cells #[.string f0, .slice Ax f1.length cx] 34) (.cells #[.string g0, .slice Ay g1.length cy] 34)).2.2
          clear HSC
          generalize ((wr.alloc (.cells #[.string f0, .slice Ax f1.length cx] 34)).alloc (.cells #[.string g0, .slice Ay g1.length cy] 34)).drew = wq at *
          obtain ⟨bx, hbx⟩ : ∃ bx, bx = wr.heap.size := ⟨_, rfl⟩
          obtain ⟨by_, hby⟩ : ∃ by_, by_ = wr.heap.size + 1 := ⟨_, rfl⟩
          simp only [← hby] at BX BY ⊢
          simp only [← hbx] at BX BY ⊢
          clear hbx hby
          have hb2 : Below wr.heap.size wr wq := HQ.out
          replace HS := Lib.hid (HS.out.below hb2)
          replace HT := Lib.hid (HT.out.below hb2)
          replace HB := Lib.hid (HB.out.trans (hb2.mono HB.out.size))
          replace CX := Lib.hid (C_below CX.out hb2)
          replace CY := Lib.hid (C_below CY.out hb2)
          clear hb2 HQ X0 X1 Y0 Y1
          obtain ⟨p0, -⟩ := Hp.blk_cell BX.out 0 rfl
          obtain ⟨p1, -⟩ := Hp.blk_cell BX.out 1 rfl
          obtain ⟨s0, -⟩ := Hp.blk_cell BY.out 0 rfl
          obtain ⟨s1, -⟩ := Hp.blk_cell BY.out 1 rfl
          by_cases hn : nk f0 = nk g0
          · have hs : (f0.toList == g0.toList) = true := by rw [str_eq, decide_eq_true hn]
            by_cases hl : f1.length = g1.length
            · have hl2 : ((f1.length : Int) != (g1.length : Int)) = false := by rw [hl]; simp
              have HI : Hid (rr = decide ((f1.drop 0).map fkey = (g1.drop 0).map fkey ∧ (a.drop (k + 1)).map ckey = (b.drop (k + 1)).map ckey)) := Lib.hid (by rw [HF2.out]; simp [ckey, hn])
              have HL := Lib.hid hl
              clear hn hl HF2
              go_wp2_with (fail)
              clear p0 p1 s0 s1
              go_loopw [50] (fun v50 ws => ∃ q : Nat, q ≤ f1.length ∧ v50 = .int .i64 q ∧ Hid (Below wq.heap.size wq ws) ∧ Hid (rr = decide ((f1.drop q).map fkey = (g1.drop q).map fkey ∧ (a.drop (k + 1)).map ckey = (b.drop (k + 1)).map ckey))) (fun v50 _ => f1.length - (intOf v50).toNat)
              case atStart => exact ⟨0, Nat.zero_le _, rfl, Lib.hid (Below.refl _ _), HI⟩
              case round =>
                clear HI
                obtain ⟨q, hq, rfl, HQ, HI⟩ := hrel
                by_cases hql : q < f1.length
                · have hqg : q < g1.length := by rw [← HL.out]; exact hql
                  obtain ⟨ax, hA, u0, u1⟩ := at41 (C_below CX.out HQ.out) q hql
                  subst hA
                  obtain ⟨ay, hA, v0, v1⟩ := at41 (C_below CY.out HQ.out) q hqg
                  subst hA
                  have HI2 : Hid (rr = decide ((fkey (rd_T41 f1 q) = fkey (rd_T41 g1 q) ∧ (f1.drop (q + 1)).map fkey = (g1.drop (q + 1)).map fkey) ∧ (a.drop (k + 1)).map ckey = (b.drop (k + 1)).map ckey)) := Lib.hid (by rw [HI.out]; refine decide_eq_decide.2 ?_; rw [drop_cons f1 q hql, drop_cons g1 q hqg, List.map_cons, List.map_cons, List.cons.injEq])
                  obtain ⟨x, hx⟩ : ∃ x, x = rd_T41 f1 (q : Int) := ⟨_, rfl⟩
                  obtain ⟨y, hy⟩ : ∃ y, y = rd_T41 g1 (q : Int) := ⟨_, rfl⟩
                  rw [← hx] at u0 u1 HI2
                  rw [← hy] at v0 v1 HI2
                  obtain ⟨x0, x1⟩ := x
                  obtain ⟨y0, y1⟩ := y
                  simp only at u0 u1 v0 v1 HI2
                  clear hx hy HI
                  have U0 := Lib.hid u0
                  have U1 := Lib.hid u1
                  have V0 := Lib.hid v0
                  have V1 := Lib.hid v1
                  clear u0 u1 v0 v1
                  have BX2 := Lib.hid ((HQ.out.block _ (Hp.blk_lt BX.out)).trans BX.out)
                  have BY2 := Lib.hid ((HQ.out.block _ (Hp.blk_lt BY.out)).trans BY.out)
                  go_upto_region 12 with (fail)
                  refine Rg.Upto.start (fun w' => Below wr.heap.size wr w') 1000 (by kernel_rfl) (Below.refl _ wr).drew (fun HSC => ?_)
                  refine Rg.Upto.takeA (i := 0) (v := ?_) rfl (by kernel_rfl) (by kernel_rfl) (by kernel_rfl) (of_decide_eq_true (by kernel_rfl)) (fun _ _ _ h => h) (by rfl) (fun w5 hS5 => ?_) HSC ?_
                  rotate_left
                  · clear hS5
                    go_simp
                    try rfl
                  try simp only [Act.put, List.setIfInBounds_toArray, List.set_cons_zero, List.set_cons_succ]
                  refine Rg.Upto.takeA (i := 1) (v := ?_) rfl (by kernel_rfl) (by kernel_rfl) (by kernel_rfl) (of_decide_eq_true (by kernel_rfl)) (fun _ _ _ h => h) (by rfl) (fun w5 hS5 => ?_) HSC ?_
                  rotate_left
                  · have p1 := (Hp.blk_cell ((hS5.block _ (Hp.blk_lt BX2.out)).trans BX2.out) 1 rfl).1
                    clear hS5
                    go_simp
                    try rfl
                  try simp only [Act.put, List.setIfInBounds_toArray, List.set_cons_zero, List.set_cons_succ]
                  refine Rg.Upto.takeA (i := 2) (v := ?_) rfl (by kernel_rfl) (by kernel_rfl) (by kernel_rfl) (of_decide_eq_true (by kernel_rfl)) (fun _ _ _ h => h) (by rfl) (fun w5 hS5 => ?_) HSC ?_
                  rotate_left
                  · clear hS5
                    go_simp
                    try rfl
                  try simp only [Act.put, List.setIfInBounds_toArray, List.set_cons_zero, List.set_cons_succ]
                  refine Rg.Upto.takeA (i := 3) (v := ?_) rfl (by kernel_rfl) (by kernel_rfl) (by kernel_rfl) (of_decide_eq_true (by kernel_rfl)) (fun _ _ _ h => h) (by rfl) (fun w5 hS5 => ?_) HSC ?_
                  rotate_left
                  · clear hS5
                    go_simp
                    try rfl
                  try simp only [Act.put, List.setIfInBounds_toArray, List.set_cons_zero, List.set_cons_succ]
                  refine Rg.Upto.takeA (i := 4) (v := ?_) rfl (by kernel_rfl) (by kernel_rfl) (by kernel_rfl) (of_decide_eq_true (by kernel_rfl)) (fun _ _ _ h => h) (by rfl) (fun w5 hS5 => ?_) HSC ?_
                  rotate_left
                  · have y0 := (hS5.cell (World.block_lt_of_cell? _ _ U0.out)).trans U0.out
                    have y1 := (hS5.cell (World.block_lt_of_cell? _ _ U1.out)).trans U1.out
                    clear hS5
                    go_simp
                    try rfl
                  try simp only [Act.put, List.setIfInBounds_toArray, List.set_cons_zero, List.set_cons_succ]
                  refine Rg.Upto.takeA (i := 5) (v := ?_) rfl (by kernel_rfl) (by kernel_rfl) (by kernel_rfl) (of_decide_eq_true (by kernel_rfl)) (fun _ _ _ h => h) (by rfl) (fun w5 hS5 => ?_) HSC ?_
                  rotate_left
                  · clear hS5
                    go_simp
                    try rfl
                  try simp only [Act.put, List.setIfInBounds_toArray, List.set_cons_zero, List.set_cons_succ]
                  refine Rg.Upto.takeA (i := 6) (v := ?_) rfl (by kernel_rfl) (by kernel_rfl) (by kernel_rfl) (of_decide_eq_true (by kernel_rfl)) (fun _ _ _ h => h) (by rfl) (fun w5 hS5 => ?_) HSC ?_
                  rotate_left
                  · have p1 := (Hp.blk_cell ((hS5.block _ (Hp.blk_lt BY2.out)).trans BY2.out) 1 rfl).1
                    clear hS5
                    go_simp
                    try rfl
                  try simp only [Act.put, List.setIfInBounds_toArray, List.set_cons_zero, List.set_cons_succ]
                  refine Rg.Upto.takeA (i := 7) (v := ?_) rfl (by kernel_rfl) (by kernel_rfl) (by kernel_rfl) (of_decide_eq_true (by kernel_rfl)) (fun _ _ _ h => h) (by rfl) (fun w5 hS5 => ?_) HSC ?_
                  rotate_left
                  · clear hS5
                    go_simp
                    try rfl
                  try simp only [Act.put, List.setIfInBounds_toArray, List.set_cons_zero, List.set_cons_succ]
                  refine Rg.Upto.takeA (i := 8) (v := ?_) rfl (by kernel_rfl) (by kernel_rfl) (by kernel_rfl) (of_decide_eq_true (by kernel_rfl)) (fun _ _ _ h => h) (by rfl) (fun w5 hS5 => ?_) HSC ?_
                  rotate_left
                  · clear hS5
                    go_simp
                    try rfl
                  try simp only [Act.put, List.setIfInBounds_toArray, List.set_cons_zero, List.set_cons_succ]
                  refine Rg.Upto.takeA (i := 9) (v := ?_) rfl (by kernel_rfl) (by kernel_rfl) (by kernel_rfl) (of_decide_eq_true (by kernel_rfl)) (fun _ _ _ h => h) (by rfl) (fun w5 hS5 => ?_) HSC ?_
                  rotate_left
                  · have y0 := (hS5.cell (World.block_lt_of_cell? _ _ V0.out)).trans V0.out
                    have y1 := (hS5.cell (World.block_lt_of_cell? _ _ V1.out)).trans V1.out
                    clear hS5
                    go_simp
                    try rfl
                  try simp only [Act.put, List.setIfInBounds_toArray, List.set_cons_zero, List.set_cons_succ]
                  refine Rg.Upto.takeA (i := 10) (v := ?_) rfl (by kernel_rfl) (by kernel_rfl) (by kernel_rfl) (of_decide_eq_true (by kernel_rfl)) (fun _ _ _ h => h) (by rfl) (fun w5 hS5 => ?_) HSC ?_
                  rotate_left
                  · clear hS5
                    go_simp
                    try rfl
                  try simp only [Act.put, List.setIfInBounds_toArray, List.set_cons_zero, List.set_cons_succ]
                  clear HSC
                  refine Rg.Upto.done (by kernel_rfl) ?_
                  have HQ2 := Lib.hid HQ.out.drew
                  clear HQ U0 U1 V0 V1 BX2 BY2
                  by_cases hf : fkey (⟨x0, x1⟩ : S41) = fkey ⟨y0, y1⟩
                  · have hz : (!(x0.toList == y0.toList) || !(x1 == y1)) = false := by
                      unfold fkey at hf
                      injection hf with h1 h2
                      rw [str_eq]
                      have h2' : x1 = y1 := h2
                      have h1' : nk x0 = nk y0 := h1
                      simp [h1', h2']
                    rw [hz]
                    have HI3 : Hid (rr = decide ((f1.drop (q + 1)).map fkey = (g1.drop (q + 1)).map fkey ∧ (a.drop (k + 1)).map ckey = (b.drop (k + 1)).map ckey)) := Lib.hid (by rw [HI2.out]; simp [hf])
                    clear HI2 hf
                    go_wp2_with (fail)
                    go_roundw
                    case rel => exact ⟨q + 1, by omega, by go_num, HQ2, HI3⟩
                    case measure => simp [intOf]; omega
                  · have hz : (!(x0.toList == y0.toList) || !(x1 == y1)) = true := by
                      rw [str_eq]
                      by_cases h1 : nk x0 = nk y0
                      · have h2 : x1 ≠ y1 := fun z => hf (by unfold fkey; rw [h1, z])
                        simp [h2]
                      · simp [h1]
                    rw [hz]
                    have hrr : rr = false := by rw [HI2.out]; exact decide_eq_false (fun z => hf z.1.1)
                    subst hrr
                    clear HI2 hf
                    go_wp2_with (fail)
                    go_ret
                    exact ⟨rfl, HB.out.trans (HQ2.out.mono HB.out.size)⟩
                · obtain rfl : q = f1.length := by omega
                  have HF3 : Hid (rr = decide ((a.drop (k + 1)).map ckey = (b.drop (k + 1)).map ckey)) := Lib.hid (by
                    rw [HI.out, List.drop_length, HL.out, List.drop_length]
                    simp)
                  have hb2 := HQ.out
                  replace HS := Lib.hid (HS.out.below hb2)
                  replace HT := Lib.hid (HT.out.below hb2)
                  replace HB := Lib.hid (HB.out.trans (hb2.mono HB.out.size))
                  clear hb2
                  go_wp2_with (fail)
                  go_roundw
                  case rel => exact ⟨k + 1, by omega, by go_num, HS, HT, HB, HF3⟩
                  case measure => simp [intOf]; omega
            · have hl2 : ((f1.length : Int) != (g1.length : Int)) = true := bne_iff_ne.2 (by omega)
              have hrr : rr = false := by
                rw [HF2.out]
                exact decide_eq_false (fun z => hl (by have := congrArg (fun p => p.2.length) z.1; simpa [ckey] using this))
              subst hrr
              clear HF2 hn hl
              go_wp2_with (fail)
              go_ret
              exact ⟨rfl, HB.out⟩
          · have hs : (f0.toList == g0.toList) = false := by rw [str_eq, decide_eq_false hn]
            have hrr : rr = false := by
              rw [HF2.out]
              exact decide_eq_false (fun z => hn (congrArg Prod.fst z.1))
            subst hrr
            clear HF2 hn
            go_wp2_with (fail)
            go_ret
            exact ⟨rfl, HB.out⟩
        · refine ⟨_, rfl, rfl, fun KK hK => ?_⟩
          go_simp
          refine hK.out _ _ (HSC.alloc HSC.size _) ?_
          clear hK KK
          try simp only [Act.put, List.setIfInBounds_toArray, List.set_cons_zero, List.set_cons_succ]
          refine Rg.Upto.one (i := 14) rfl (by kernel_rfl) (by rfl) (fun KK hK => ?_)
          go_simp
          refine hK.out _ _ ((HSC.alloc HSC.size _).alloc (Nat.le_trans HSC.size (by simp)) _) ?_
          clear hK KK
          try simp only [Act.put, List.setIfInBounds_toArray, List.set_cons_zero, List.set_cons_succ]
          refine Rg.Upto.one (i := 16) rfl (by kernel_rfl) (by rfl) (fun KK hK => ?_)
          go_simp
          refine hK.out _ _ (below_any (two wr _ _).2.2) ?_
          clear hK KK
          try simp only [Act.put, List.setIfInBounds_toArray, List.set_cons_zero, List.set_cons_succ]
          refine Rg.Upto.one (i := 17) rfl (by kernel_rfl) (by rfl) (fun KK hK => ?_)
          go_simp
          refine hK.out _ _ (below_any (two wr _ _).2.2) ?_
          clear hK KK
          try simp only [Act.put, List.setIfInBounds_toArray, List.set_cons_zero, List.set_cons_succ]
          refine Rg.Upto.done (by kernel_rfl) ?_
          have BY := Lib.hid (two wr (.cells #[.string g0, .slice Ay g1.length cy] 34) (.cells #[.string f0, .slice Ax f1.length cx] 34)).1
          have BX := Lib.hid (two wr (.cells #[.string g0, .slice Ay g1.length cy] 34) (.cells #[.string f0, .slice Ax f1.length cx] 34)).2.1
          have HQ := Lib.hid (two wr (.cells #[.string g0, .slice Ay g1.length cy] 34) (.cells #[.string f0, .slice Ax f1.length cx] 34)).2.2
          clear HSC
          generalize ((wr.alloc (.cells #[.string g0, .slice Ay g1.length cy] 34)).alloc (.cells #[.string f0, .slice Ax f1.length cx] 34)).drew = wq at *
          obtain ⟨bx, hbx⟩ : ∃ bx, bx = wr.heap.size + 1 := ⟨_, rfl⟩
          obtain ⟨by_, hby⟩ : ∃ by_, by_ = wr.heap.size := ⟨_, rfl⟩
          simp only [← hbx] at BX BY ⊢
          simp only [← hby] at BX BY ⊢
          clear hbx hby
          have hb2 : Below wr.heap.size wr wq := HQ.out
          replace HS := Lib.hid (HS.out.below hb2)
          replace HT := Lib.hid (HT.out.below hb2)
          replace HB := Lib.hid (HB.out.trans (hb2.mono HB.out.size))
          replace CX := Lib.hid (C_below CX.out hb2)
          replace CY := Lib.hid (C_below CY.out hb2)
          clear hb2 HQ X0 X1 Y0 Y1
          obtain ⟨p0, -⟩ := Hp.blk_cell BX.out 0 rfl
          obtain ⟨p1, -⟩ := Hp.blk_cell BX.out 1 rfl
          obtain ⟨s0, -⟩ := Hp.blk_cell BY.out 0 rfl
          obtain ⟨s1, -⟩ := Hp.blk_cell BY.out 1 rfl
          by_cases hn : nk f0 = nk g0
          · have hs : (f0.toList == g0.toList) = true := by rw [str_eq, decide_eq_true hn]
            by_cases hl : f1.length = g1.length
            · have hl2 : ((f1.length : Int) != (g1.length : Int)) = false := by rw [hl]; simp
              have HI : Hid (rr = decide ((f1.drop 0).map fkey = (g1.drop 0).map fkey ∧ (a.drop (k + 1)).map ckey = (b.drop (k + 1)).map ckey)) := Lib.hid (by rw [HF2.out]; simp [ckey, hn])
              have HL := Lib.hid hl
              clear hn hl HF2
              go_wp2_with (fail)
              clear p0 p1 s0 s1
              go_loopw [50] (fun v50 ws => ∃ q : Nat, q ≤ f1.length ∧ v50 = .int .i64 q ∧ Hid (Below wq.heap.size wq ws) ∧ Hid (rr = decide ((f1.drop q).map fkey = (g1.drop q).map fkey ∧ (a.drop (k + 1)).map ckey = (b.drop (k + 1)).map ckey))) (fun v50 _ => f1.length - (intOf v50).toNat)
              case atStart => exact ⟨0, Nat.zero_le _, rfl, Lib.hid (Below.refl _ _), HI⟩
              case round =>
                clear HI
                obtain ⟨q, hq, rfl, HQ, HI⟩ := hrel
                by_cases hql : q < f1.length
                · have hqg : q < g1.length := by rw [← HL.out]; exact hql
                  obtain ⟨ax, hA, u0, u1⟩ := at41 (C_below CX.out HQ.out) q hql
                  subst hA
                  obtain ⟨ay, hA, v0, v1⟩ := at41 (C_below CY.out HQ.out) q hqg
                  subst hA
                  have HI2 : Hid (rr = decide ((fkey (rd_T41 f1 q) = fkey (rd_T41 g1 q) ∧ (f1.drop (q + 1)).map fkey = (g1.drop (q + 1)).map fkey) ∧ (a.drop (k + 1)).map ckey = (b.drop (k + 1)).map ckey)) := Lib.hid (by rw [HI.out]; refine decide_eq_decide.2 ?_; rw [drop_cons f1 q hql, drop_cons g1 q hqg, List.map_cons, List.map_cons, List.cons.injEq])
                  obtain ⟨x, hx⟩ : ∃ x, x = rd_T41 f1 (q : Int) := ⟨_, rfl⟩
                  obtain ⟨y, hy⟩ : ∃ y, y = rd_T41 g1 (q : Int) := ⟨_, rfl⟩
                  rw [← hx] at u0 u1 HI2
                  rw [← hy] at v0 v1 HI2
                  obtain ⟨x0, x1⟩ := x
                  obtain ⟨y0, y1⟩ := y
                  simp only at u0 u1 v0 v1 HI2
                  clear hx hy HI
                  have U0 := Lib.hid u0
                  have U1 := Lib.hid u1
                  have V0 := Lib.hid v0
                  have V1 := Lib.hid v1
                  clear u0 u1 v0 v1
                  have BX2 := Lib.hid ((HQ.out.block _ (Hp.blk_lt BX.out)).trans BX.out)
                  have BY2 := Lib.hid ((HQ.out.block _ (Hp.blk_lt BY.out)).trans BY.out)
                  go_upto_region 12 with (fail)
                  refine Rg.Upto.start (fun w' => Below wr.heap.size wr w') 1000 (by kernel_rfl) (Below.refl _ wr).drew (fun HSC => ?_)
                  refine Rg.Upto.takeA (i := 0) (v := ?_) rfl (by kernel_rfl) (by kernel_rfl) (by kernel_rfl) (of_decide_eq_true (by kernel_rfl)) (fun _ _ _ h => h) (by rfl) (fun w5 hS5 => ?_) HSC ?_
                  rotate_left
                  · clear hS5
                    go_simp
                    try rfl
                  try simp only [Act.put, List.setIfInBounds_toArray, List.set_cons_zero, List.set_cons_succ]
                  refine Rg.Upto.takeA (i := 1) (v := ?_) rfl (by kernel_rfl) (by kernel_rfl) (by kernel_rfl) (of_decide_eq_true (by kernel_rfl)) (fun _ _ _ h => h) (by rfl) (fun w5 hS5 => ?_) HSC ?_
                  rotate_left
                  · have p1 := (Hp.blk_cell ((hS5.block _ (Hp.blk_lt BX2.out)).trans BX2.out) 1 rfl).1
                    clear hS5
                    go_simp
                    try rfl
                  try simp only [Act.put, List.setIfInBounds_toArray, List.set_cons_zero, List.set_cons_succ]
                  refine Rg.Upto.takeA (i := 2) (v := ?_) rfl (by kernel_rfl) (by kernel_rfl) (by kernel_rfl) (of_decide_eq_true (by kernel_rfl)) (fun _ _ _ h => h) (by rfl) (fun w5 hS5 => ?_) HSC ?_
                  rotate_left
                  · clear hS5
                    go_simp
                    try rfl
                  try simp only [Act.put, List.setIfInBounds_toArray, List.set_cons_zero, List.set_cons_succ]
                  refine Rg.Upto.takeA (i := 3) (v := ?_) rfl (by kernel_rfl) (by kernel_rfl) (by kernel_rfl) (of_decide_eq_true (by kernel_rfl)) (fun _ _ _ h => h) (by rfl) (fun w5 hS5 => ?_) HSC ?_
                  rotate_left
                  · clear hS5
                    go_simp
                    try rfl
                  try simp only [Act.put, List.setIfInBounds_toArray, List.set_cons_zero, List.set_cons_succ]
                  refine Rg.Upto.takeA (i := 4) (v := ?_) rfl (by kernel_rfl) (by kernel_rfl) (by kernel_rfl) (of_decide_eq_true (by kernel_rfl)) (fun _ _ _ h => h) (by rfl) (fun w5 hS5 => ?_) HSC ?_
                  rotate_left
                  · have y0 := (hS5.cell (World.block_lt_of_cell? _ _ U0.out)).trans U0.out
                    have y1 := (hS5.cell (World.block_lt_of_cell? _ _ U1.out)).trans U1.out
                    clear hS5
                    go_simp
                    try rfl
                  try simp only [Act.put, List.setIfInBounds_toArray, List.set_cons_zero, List.set_cons_succ]
                  refine Rg.Upto.takeA (i := 5) (v := ?_) rfl (by kernel_rfl) (by kernel_rfl) (by kernel_rfl) (of_decide_eq_true (by kernel_rfl)) (fun _ _ _ h => h) (by rfl) (fun w5 hS5 => ?_) HSC ?_
                  rotate_left
                  · clear hS5
                    go_simp
                    try rfl
                  try simp only [Act.put, List.setIfInBounds_toArray, List.set_cons_zero, List.set_cons_succ]
                  refine Rg.Upto.takeA (i := 6) (v := ?_) rfl (by kernel_rfl) (by kernel_rfl) (by kernel_rfl) (of_decide_eq_true (by kernel_rfl)) (fun _ _ _ h => h) (by rfl) (fun w5 hS5 => ?_) HSC ?_
                  rotate_left
                  · have p1 := (Hp.blk_cell ((hS5.block _ (Hp.blk_lt BY2.out)).trans BY2.out) 1 rfl).1
                    clear hS5
                    go_simp
                    try rfl
                  try simp only [Act.put, List.setIfInBounds_toArray, List.set_cons_zero, List.set_cons_succ]
                  refine Rg.Upto.takeA (i := 7) (v := ?_) rfl (by kernel_rfl) (by kernel_rfl) (by kernel_rfl) (of_decide_eq_true (by kernel_rfl)) (fun _ _ _ h => h) (by rfl) (fun w5 hS5 => ?_) HSC ?_
                  rotate_left
                  · clear hS5
                    go_simp
                    try rfl
                  try simp only [Act.put, List.setIfInBounds_toArray, List.set_cons_zero, List.set_cons_succ]
                  refine Rg.Upto.takeA (i := 8) (v := ?_) rfl (by kernel_rfl) (by kernel_rfl) (by kernel_rfl) (of_decide_eq_true (by kernel_rfl)) (fun _ _ _ h => h) (by rfl) (fun w5 hS5 => ?_) HSC ?_
                  rotate_left
                  · clear hS5
                    go_simp
                    try rfl
                  try simp only [Act.put, List.setIfInBounds_toArray, List.set_cons_zero, List.set_cons_succ]
                  refine Rg.Upto.takeA (i := 9) (v := ?_) rfl (by kernel_rfl) (by kernel_rfl) (by kernel_rfl) (of_decide_eq_true (by kernel_rfl)) (fun _ _ _ h => h) (by rfl) (fun w5 hS5 => ?_) HSC ?_
                  rotate_left
                  · have y0 := (hS5.cell (World.block_lt_of_cell? _ _ V0.out)).trans V0.out
                    have y1 := (hS5.cell (World.block_lt_of_cell? _ _ V1.out)).trans V1.out
                    clear hS5
                    go_simp
                    try rfl
                  try simp only [Act.put, List.setIfInBounds_toArray, List.set_cons_zero, List.set_cons_succ]
                  refine Rg.Upto.takeA (i := 10) (v := ?_) rfl (by kernel_rfl) (by kernel_rfl) (by kernel_rfl) (of_decide_eq_true (by kernel_rfl)) (fun _ _ _ h => h) (by rfl) (fun w5 hS5 => ?_) HSC ?_
                  rotate_left
                  · clear hS5
                    go_simp
                    try rfl
                  try simp only [Act.put, List.setIfInBounds_toArray, List.set_cons_zero, List.set_cons_succ]
                  clear HSC
                  refine Rg.Upto.done (by kernel_rfl) ?_
                  have HQ2 := Lib.hid HQ.out.drew
                  clear HQ U0 U1 V0 V1 BX2 BY2
                  by_cases hf : fkey (⟨x0, x1⟩ : S41) = fkey ⟨y0, y1⟩
                  · have hz : (!(x0.toList == y0.toList) || !(x1 == y1)) = false := by
                      unfold fkey at hf
                      injection hf with h1 h2
                      rw [str_eq]
                      have h2' : x1 = y1 := h2
                      have h1' : nk x0 = nk y0 := h1
                      simp [h1', h2']
                    rw [hz]
                    have HI3 : Hid (rr = decide ((f1.drop (q + 1)).map fkey = (g1.drop (q + 1)).map fkey ∧ (a.drop (k + 1)).map ckey = (b.drop (k + 1)).map ckey)) := Lib.hid (by rw [HI2.out]; simp [hf])
                    clear HI2 hf
                    go_wp2_with (fail)
                    go_roundw
                    case rel => exact ⟨q + 1, by omega, by go_num, HQ2, HI3⟩
                    case measure => simp [intOf]; omega
                  · have hz : (!(x0.toList == y0.toList) || !(x1 == y1)) = true := by
                      rw [str_eq]
                      by_cases h1 : nk x0 = nk y0
                      · have h2 : x1 ≠ y1 := fun z => hf (by unfold fkey; rw [h1, z])
                        simp [h2]
                      · simp [h1]
                    rw [hz]
                    have hrr : rr = false := by rw [HI2.out]; exact decide_eq_false (fun z => hf z.1.1)
                    subst hrr
                    clear HI2 hf
                    go_wp2_with (fail)
                    go_ret
                    exact ⟨rfl, HB.out.trans (HQ2.out.mono HB.out.size)⟩
                · obtain rfl : q = f1.length := by omega
                  have HF3 : Hid (rr = decide ((a.drop (k + 1)).map ckey = (b.drop (k + 1)).map ckey)) := Lib.hid (by
                    rw [HI.out, List.drop_length, HL.out, List.drop_length]
                    simp)
                  have hb2 := HQ.out
                  replace HS := Lib.hid (HS.out.below hb2)
                  replace HT := Lib.hid (HT.out.below hb2)
                  replace HB := Lib.hid (HB.out.trans (hb2.mono HB.out.size))
                  clear hb2
                  go_wp2_with (fail)
                  go_roundw
                  case rel => exact ⟨k + 1, by omega, by go_num, HS, HT, HB, HF3⟩
                  case measure => simp [intOf]; omega
            · have hl2 : ((f1.length : Int) != (g1.length : Int)) = true := bne_iff_ne.2 (by omega)
              have hrr : rr = false := by
                rw [HF2.out]
                exact decide_eq_false (fun z => hl (by have := congrArg (fun p => p.2.length) z.1; simpa [ckey] using this))
              subst hrr
              clear HF2 hn hl
              go_wp2_with (fail)
              go_ret
              exact ⟨rfl, HB.out⟩
          · have hs : (f0.toList == g0.toList) = false := by rw [str_eq, decide_eq_false hn]
            have hrr : rr = false := by
              rw [HF2.out]
              exact decide_eq_false (fun z => hn (congrArg Prod.fst z.1))
            subst hrr
            clear HF2 hn
            go_wp2_with (fail)
            go_ret
            exact ⟨rfl, HB.out⟩
      · obtain rfl : k = a.length := by omega
        have hrr : rr = true := by rw [HF.out, List.drop_length, HL.out, List.drop_length]; rfl
        subst hrr
        go_wp2_with (fail)
        go_ret
        exact ⟨rfl, HB.out⟩
  · have hrr : smB a b = false := decide_eq_false (fun z => hl (by have := congrArg List.length z; simpa using this))
    have HCO := Lib.hid (count_call HS.out)
    have HCT := Lib.hid (count_call HT.out)
    have e2 : ((a.length : Int) != (b.length : Int)) = true := bne_iff_ne.2 (by omega)
    rw [hrr]
    clear hrr hl
    go_enter Try.func17, Try.ntmps17
    go_wp2_with (first
      | (go_at_call 13; go_loud (first
          | ((with_reducible refine HCO.out.mono ?_); rintro e w3 ⟨rfl, hw⟩; obtain rfl := hw.symm)
          | ((with_reducible refine HCT.out.mono ?_); rintro e w3 ⟨rfl, hw⟩; obtain rfl := hw.symm))))
    go_ret
    exact ⟨rfl, Below.refl _ _⟩
end Go.Proofs.Yteankgbcmfkfnaa.Cl

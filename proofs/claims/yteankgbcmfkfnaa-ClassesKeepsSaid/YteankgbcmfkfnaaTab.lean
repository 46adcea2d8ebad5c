/- What a table tells. -/
import Derived.Test.YteankgbcmfkfnaaNew
import Derived.Test.YteankgbcmfkfnaaPHx3
namespace Go.Proofs.Yteankgbcmfkfnaa.Cl
open Go Go.RowKit Go.Proofs.Yteankgbcmfkfnaa.Hp Go.Proofs.Yteankgbcmfkfnaa.PH
open Go.Proofs.YteankgbcmfkfnaaW.PrintWords (bt Kd)
open Go.Proofs.YteankgbcmfkfnaaW.PrintWords.Kd (C_below R_reads)
set_option linter.unusedVariables false
set_option linter.unusedSimpArgs false

/-- A table, to be read. -/
structure IsT (w : World) (t : Nat) (L : List S34) (M : List Int) (A Am : Option Addr) (ca cm : Nat) : Prop where
  blk : w.heap[t]? = some (.cells #[.slice A L.length ca, .slice Am M.length cm] 64 (0, 0))
  le : L.length ≤ ca
  ll : Kd.C k34 w A L.length L
  mm : Kd.C (Kd.int .u64) w Am M.length M
  lm : M.length = L.length
  l16 : L.length ≤ 16
theorem IsT.below {w w' : World} {t : Nat} {L : List S34} {M : List Int} {A Am : Option Addr} {ca cm : Nat} (h : IsT w t L M A Am ca cm) (hb : Below w.heap.size w w') : IsT w' t L M A Am ca cm :=
  ⟨(hb.block t (blk_lt h.blk)).trans h.blk, h.le, C_below h.ll hb, C_below h.mm hb, h.lm, h.l16⟩
theorem own_ints {B n : Nat} {w : World} {v : Value} {xs : List Int} (h : w.ownsRow B 39 1 v n (xs.map (Value.int .u64))) : ∃ A c, v = .slice A xs.length c ∧ Kd.C (Kd.int .u64) w A xs.length xs := by
  have hl := h.1
  simp at hl
  rcases h.2 with ⟨rfl, h2⟩ | ⟨g, cap, cur, rfl, h3, h4, h5, h6, h7, h8⟩
  · have : xs.length = 0 := by omega
    refine ⟨none, 0, by rw [this], rfl, by omega, fun h0 => by omega⟩
  · refine ⟨some ⟨g, 0, none⟩, cap, by rw [hl], rfl, by rw [hl]; unfold maxLen at h6; omega, fun h0 => ⟨_, rfl, fun j p hp => ⟨[.int .u64 p], rfl, rfl, fun i u hu => ?_⟩⟩⟩
    have hj : j < xs.length := (List.getElem?_eq_some_iff.1 hp).1
    obtain ⟨rfl, rfl⟩ : i = 0 ∧ .int .u64 p = u := by
      cases i with
      | zero => exact ⟨rfl, by simpa using hu⟩
      | succ i => simp at hu
    have e1 := congrArg (fun l => l[j]?) h8
    simp only [List.getElem?_map] at e1
    rw [List.getElem?_take_of_lt (by omega), hp] at e1
    have e2 : ((⟨g, 0, none⟩ : Addr).add (j * (Kd.int .u64).sz + 0)) = ⟨g, j, none⟩ := by
      show Addr.add _ (j * 1 + 0) = _
      unfold Addr.add
      split
      · rename_i h0
        have : j = 0 := by omega
        rw [this]
      · simp
    rw [e2]
    simp only [World.cell?, h4]
    rw [Array.getElem?_toList] at e1
    rw [e1]
    rfl
theorem TB.reads {B : Nat} {w : World} {t : Nat} {L : List S34} {M : List Int} {vl vm : Value} (h : TB B w t L M vl vm) (hm : M.length = L.length) (h16 : L.length ≤ 16) : ∃ A Am ca cm, IsT w t L M A Am ca cm := by
  obtain ⟨A, ca, e1, hle, hC⟩ := R_reads h.ll
  obtain ⟨Am, cm, e2, hM⟩ := own_ints h.mm
  refine ⟨A, Am, ca, cm, ?_, hle, hC, hM, hm, h16⟩
  have := h.blk
  rw [e1, e2] at this
  exact this

theorem count_call {w : World} {t : Nat} {L : List S34} {M : List Int} {A Am : Option Addr} {ca cm : Nat} (h : IsT w t L M A Am ca cm) :
    Calls Try.prog 13 #[.pointer (some ⟨t, 0, none⟩)] w fun e w' => e = .returned (.int .i64 L.length) ∧ w' = w := by
  obtain ⟨x0, -⟩ := Hp.blk_cell h.blk 0 rfl
  clear h
  go_enter Try.func13, Try.ntmps13
  go_wp2
  go_ret
  exact ⟨rfl, rfl⟩
theorem count_nil (w : World) :
    Calls Try.prog 13 #[.pointer none] w fun e w' => e = .returned (.int .i64 0) ∧ w' = w := by
  go_enter Try.func13, Try.ntmps13
  go_wp2
  go_ret
  exact ⟨rfl, rfl⟩
theorem known_call {w : World} {t : Nat} {L : List S34} {M : List Int} {A Am : Option Addr} {ca cm : Nat} (h : IsT w t L M A Am ca cm) (c : Int) :
    Calls Try.prog 31 #[.pointer (some ⟨t, 0, none⟩), .int .i64 c] w fun e w' => e = .returned (.bool (decide (0 ≤ c ∧ c < L.length))) ∧ w' = w := by
  obtain ⟨x0, -⟩ := Hp.blk_cell h.blk 0 rfl
  clear h
  by_cases h0 : 0 ≤ c
  · by_cases h1 : c < L.length
    · rw [decide_eq_true (p := 0 ≤ c ∧ c < (L.length : Int)) ⟨h0, h1⟩]
      have b0 : decide (0 ≤ c) = true := decide_eq_true h0
      have b1 : decide (c < (L.length : Int)) = true := decide_eq_true h1
      clear h0 h1
      go_enter Try.func31, Try.ntmps31
      go_wp2
      go_ret
      exact ⟨rfl, rfl⟩
    · rw [decide_eq_false (p := 0 ≤ c ∧ c < (L.length : Int)) (fun z => h1 z.2)]
      have b0 : decide (0 ≤ c) = true := decide_eq_true h0
      have b1 : decide (c < (L.length : Int)) = false := decide_eq_false h1
      clear h0 h1
      go_enter Try.func31, Try.ntmps31
      go_wp2
      go_ret
      exact ⟨rfl, rfl⟩
  · rw [decide_eq_false (p := 0 ≤ c ∧ c < (L.length : Int)) (fun z => h0 z.1)]
    have b0 : decide (0 ≤ c) = false := decide_eq_false h0
    clear h0
    go_enter Try.func31, Try.ntmps31
    go_wp2
    go_ret
    exact ⟨rfl, rfl⟩
set_option maxHeartbeats 2000000 in
set_option maxRecDepth 100000 in
theorem head_yes {w : World} {t : Nat} {L : List S34} {M : List Int} {A Am : Option Addr} {ca cm : Nat} (h : IsT w t L M A Am ca cm) (c : Nat) (hc : c < L.length) :
    Calls Try.prog 25 #[.pointer (some ⟨t, 0, none⟩), .int .i64 c] w fun e w' => e = .returned (.tuple #[.agg #[.int .i64 c, .int .i64 1, .int .i64 (rd_T34 L c).f1.length], .int .i64 0]) ∧ Below w.heap.size w w' := by
  have hb0 : Below w.heap.size w (w.alloc (.cells #[.int .i64 0, .int .i64 0, .int .i64 0] 45)) := (Below.refl _ w).alloc (Nat.le_refl _) _
  have HT := Lib.hid (h.below hb0)
  have KB := Lib.hid (Hp.blk_new w (.cells #[.int .i64 0, .int .i64 0, .int .i64 0] 45))
  have HB := Lib.hid hb0
  obtain ⟨x0, -⟩ := Hp.blk_cell HT.out.blk 0 rfl
  obtain ⟨q0, g0⟩ := Hp.blk_cell KB.out 0 rfl
  obtain ⟨q1, g1⟩ := Hp.blk_cell KB.out 1 rfl
  obtain ⟨q2, g2⟩ := Hp.blk_cell KB.out 2 rfl
  obtain ⟨ad, A1, c1, hA, r0, r1, -, -⟩ := at_T34 HT.out.ll (c : Int) (by omega) (by omega)
  subst hA
  rw [Int.toNat_natCast] at r0 r1
  have HC := Lib.hid hc
  have hkn : decide (0 ≤ (c : Int) ∧ (c : Int) < (L.length : Int)) = true := decide_eq_true (by omega)
  have HK : Hid (Calls Try.prog 31 #[.pointer (some ⟨t, 0, none⟩), .int .i64 c] (w.alloc (.cells #[.int .i64 0, .int .i64 0, .int .i64 0] 45)) fun e w' => e = .returned (.bool true) ∧ w' = w.alloc (.cells #[.int .i64 0, .int .i64 0, .int .i64 0] 45)) := Lib.hid (by
    have := known_call HT.out (c : Int)
    rw [hkn] at this
    exact this)
  obtain ⟨x, hx⟩ : ∃ x, x = rd_T34 L (c : Int) := ⟨_, rfl⟩
  rw [← hx] at r0 r1 ⊢
  clear hx h hb0 hkn
  go_enter Try.func25, Try.ntmps25
  go_wp2_with (first
    | (go_at_call 31; ((with_reducible refine HK.out.mono ?_); rintro e w9 ⟨rfl, hw⟩; obtain rfl := hw.symm)))
  refine bodyPost_ret (Go.Proofs.YteankgbcmfkfnaaW.PrintWords.results_ct (fn := Try.f25) (p := 4) (u := 5) (ty := 45) rfl _ _ w.heap.size 45 #[.int .i64 c, .int .i64 1, .int .i64 x.f1.length] (0, 0) _ ?hp (Hp.blk_new _ _) Try.underlying45 ?hd ?hi) rfl ?_
  case hp => rfl
  case hd => rfl
  case hi => kernel_rfl
  exact ⟨rfl, (Below.refl _ w).alloc (Nat.le_refl _) _⟩
theorem below_any {w w' : World} (h : Below w.heap.size w w') : Below w.heap.size w w' := h
theorem row_ints1 {k : IntKind} {w : World} {A : Option Addr} {n : Nat} {xs : List Int} (h : Kd.C (Kd.int k) w A n xs) (hn : 0 < n) : ∃ ad, A = some ad ∧ ∀ i, i < n → w.cell? (ad.add i) = some (.int k (xs.getD i 0)) := by
  obtain ⟨ad, e, hc⟩ := h.2.2 hn
  refine ⟨ad, e, fun i hi => ?_⟩
  have hl : i < xs.length := by have := h.1; omega
  obtain ⟨c, hs, hr, hcell⟩ := hc i _ (List.getElem?_eq_getElem hl)
  have hr' : c = [.int k xs[i]] := hr
  subst hr'
  have := hcell 0 (.int k xs[i]) rfl
  have e1 : (Kd.int k).sz = 1 := rfl
  rw [e1, Nat.mul_one, Nat.add_zero] at this
  rw [this, List.getD_eq_getElem?_getD, List.getElem?_eq_getElem hl]
  rfl
set_option maxHeartbeats 4000000 in
set_option maxRecDepth 100000 in
theorem fits1 {w : World} {t : Nat} {L : List S34} {M : List Int} {A Am : Option Addr} {ca cm : Nat} (h : IsT w t L M A Am ca cm) (c n : Nat) (hc : c < L.length) (hn : n = (rd_T34 L c).f1.length) (r : Int) (hw : header_Head_Words.f 10 c 1 n = some r) (hr : r ≠ 0) :
    Calls Try.prog 16 #[.pointer (some ⟨t, 0, none⟩), .agg #[.int .i64 c, .int .i64 1, .int .i64 n]] w fun e w' => e = .returned (.bool true) ∧ Below w.heap.size w w' := by
  have hb0 : Below w.heap.size w (w.alloc (.cells #[.int .i64 c, .int .i64 1, .int .i64 n] 45)) := (Below.refl _ w).alloc (Nat.le_refl _) _
  have HT := Lib.hid (h.below hb0)
  have KB := Lib.hid (Hp.blk_new w (.cells #[.int .i64 c, .int .i64 1, .int .i64 n] 45))
  have HB := Lib.hid hb0
  obtain ⟨ad, A1, c1, hA, r0, r1, -, -⟩ := at_T34 HT.out.ll (c : Int) (by omega) (by omega)
  subst hA
  rw [Int.toNat_natCast] at r0 r1
  rw [← hn] at r1
  have HR1 := Lib.hid r1
  have HC := Lib.hid hc
  clear r0 r1 hc h hb0
  obtain ⟨q0, -⟩ := Hp.blk_cell KB.out 0 rfl
  obtain ⟨q1, -⟩ := Hp.blk_cell KB.out 1 rfl
  obtain ⟨q2, -⟩ := Hp.blk_cell KB.out 2 rfl
  have HW := Lib.hid hw
  have hr0 : (r == 0) = false := by simp [hr]
  clear hw hr hn
  go_enter Try.func16, Try.ntmps16
  go_upto_region 3 with (first
    | (go_at_call 32; ((with_reducible refine (header_Head_Words.calls 10 c 1 n r _ HW.out).mono ?_); rintro e w2 ⟨rfl, hb9⟩; (have hb := below_any hb9); clear hb9 q0 q1 q2; replace HT := Lib.hid (HT.out.below hb); replace KB := Lib.hid ((hb.block _ (blk_lt KB.out)).trans KB.out); replace HR1 := Lib.hid ((hb.cell (World.block_lt_of_cell? _ _ HR1.out)).trans HR1.out); replace HB := Lib.hid (HB.out.trans (hb.mono HB.out.size)); clear hb)))
  replace HT := Lib.hid (HT.out.below (w' := w2.drew) ⟨rfl, rfl, rfl, Nat.le_refl _, fun _ _ => rfl⟩)
  have KB2 : Hid (w2.drew.heap[w.heap.size]? = some (.cells #[.int .i64 c, .int .i64 1, .int .i64 n] 45 (0, 0))) := Lib.hid KB.out
  replace HB := Lib.hid HB.out.drew
  clear KB
  have HR2 : Hid (w2.drew.cell? ⟨(ad.add (c * 2)).block, (ad.add (c * 2)).off + 1, none⟩ = some (.slice A1 n c1)) := Lib.hid HR1.out
  clear HR1
  have hkn : decide (0 ≤ (c : Int) ∧ (c : Int) < (L.length : Int)) = true := decide_eq_true (by have := HC.out; omega)
  have HK : Hid (Calls Try.prog 31 #[.pointer (some ⟨t, 0, none⟩), .int .i64 c] w2.drew fun e w' => e = .returned (.bool true) ∧ w' = w2.drew) := Lib.hid (by
    have := known_call HT.out (c : Int)
    rw [hkn] at this
    exact this)
  clear hkn
  have hc := HC.out
  refine Rg.Upto.start (fun w' => w'.heap[w.heap.size]? = some (.cells #[.int .i64 c, .int .i64 1, .int .i64 n] 45 (0, 0)) ∧ w'.heap[t]? = some (.cells #[.slice (some ad) L.length ca, .slice Am M.length cm] 64 (0, 0)) ∧ w'.cell? ⟨(ad.add (c * 2)).block, (ad.add (c * 2)).off + 1, none⟩ = some (.slice A1 n c1)) 1000 (by kernel_rfl) ⟨KB2.out, HT.out.blk, HR2.out⟩ (fun HSC => ?_)
  refine Rg.Upto.takeA (i := 0) (v := ?_) rfl (by kernel_rfl) (by kernel_rfl) (by kernel_rfl) (of_decide_eq_true (by kernel_rfl)) (fun _ _ _ h => h) (by rfl) (fun w5 hS5 => ?_) HSC ?_
  rotate_left
  · obtain ⟨h1, h2, h3⟩ := hS5
    clear h1 h2
    go_simp
    try rfl
  try simp only [Act.put, List.setIfInBounds_toArray, List.set_cons_zero, List.set_cons_succ]
  refine Rg.Upto.takeA (i := 1) (v := ?_) rfl (by kernel_rfl) (by kernel_rfl) (by kernel_rfl) (of_decide_eq_true (by kernel_rfl)) (fun _ _ _ h => h) (by rfl) (fun w5 hS5 => ?_) HSC ?_
  rotate_left
  · obtain ⟨h1, h2, h3⟩ := hS5
    have q1 := (Hp.blk_cell h1 1 rfl).1
    clear h1 h2
    go_simp
    try rfl
  try simp only [Act.put, List.setIfInBounds_toArray, List.set_cons_zero, List.set_cons_succ]
  refine Rg.Upto.takeA (i := 2) (v := ?_) rfl (by kernel_rfl) (by kernel_rfl) (by kernel_rfl) (of_decide_eq_true (by kernel_rfl)) (fun _ _ _ h => h) (by rfl) (fun w5 hS5 => ?_) HSC ?_
  rotate_left
  · obtain ⟨h1, h2, h3⟩ := hS5
    clear h1 h2
    go_simp
    try rfl
  try simp only [Act.put, List.setIfInBounds_toArray, List.set_cons_zero, List.set_cons_succ]
  refine Rg.Upto.takeA (i := 3) (v := ?_) rfl (by kernel_rfl) (by kernel_rfl) (by kernel_rfl) (of_decide_eq_true (by kernel_rfl)) (fun _ _ _ h => h) (by rfl) (fun w5 hS5 => ?_) HSC ?_
  rotate_left
  · obtain ⟨h1, h2, h3⟩ := hS5
    clear h1 h2
    go_simp
    try rfl
  try simp only [Act.put, List.setIfInBounds_toArray, List.set_cons_zero, List.set_cons_succ]
  refine Rg.Upto.takeA (i := 4) (v := ?_) rfl (by kernel_rfl) (by kernel_rfl) (by kernel_rfl) (of_decide_eq_true (by kernel_rfl)) (fun _ _ _ h => h) (by rfl) (fun w5 hS5 => ?_) HSC ?_
  rotate_left
  · obtain ⟨h1, h2, h3⟩ := hS5
    clear h1 h2
    go_simp
    try rfl
  try simp only [Act.put, List.setIfInBounds_toArray, List.set_cons_zero, List.set_cons_succ]
  refine Rg.Upto.takeA (i := 5) (v := ?_) rfl (by kernel_rfl) (by kernel_rfl) (by kernel_rfl) (of_decide_eq_true (by kernel_rfl)) (fun _ _ _ h => h) (by rfl) (fun w5 hS5 => ?_) HSC ?_
  rotate_left
  · obtain ⟨h1, h2, h3⟩ := hS5
    clear h1 h2
    go_simp
    try rfl
  try simp only [Act.put, List.setIfInBounds_toArray, List.set_cons_zero, List.set_cons_succ]
  refine Rg.Upto.takeA (i := 6) (v := ?_) rfl (by kernel_rfl) (by kernel_rfl) (by kernel_rfl) (of_decide_eq_true (by kernel_rfl)) (fun _ _ _ h => h) (by rfl) (fun w5 hS5 => ?_) HSC ?_
  rotate_left
  · obtain ⟨h1, h2, h3⟩ := hS5
    have q0 := (Hp.blk_cell h1 0 rfl).1
    clear h1 h2
    go_simp
    try rfl
  try simp only [Act.put, List.setIfInBounds_toArray, List.set_cons_zero, List.set_cons_succ]
  refine Rg.Upto.one (i := 7) rfl (by kernel_rfl) (by rfl) (fun KK hK => ?_)
  go_simp
  (with_reducible refine HK.out.mono ?_)
  rintro e w3 ⟨rfl, hw3⟩
  obtain rfl := hw3.symm
  refine hK.out _ _ HSC ?_
  clear hK KK
  try simp only [Act.put, List.setIfInBounds_toArray, List.set_cons_zero, List.set_cons_succ]
  refine Rg.Upto.takeA (i := 8) (v := ?_) rfl (by kernel_rfl) (by kernel_rfl) (by kernel_rfl) (of_decide_eq_true (by kernel_rfl)) (fun _ _ _ h => h) (by rfl) (fun w5 hS5 => ?_) HSC ?_
  rotate_left
  · obtain ⟨h1, h2, h3⟩ := hS5
    clear h1 h2
    go_simp
    try rfl
  try simp only [Act.put, List.setIfInBounds_toArray, List.set_cons_zero, List.set_cons_succ]
  refine Rg.Upto.takeA (i := 9) (v := ?_) rfl (by kernel_rfl) (by kernel_rfl) (by kernel_rfl) (of_decide_eq_true (by kernel_rfl)) (fun _ _ _ h => h) (by rfl) (fun w5 hS5 => ?_) HSC ?_
  rotate_left
  · obtain ⟨h1, h2, h3⟩ := hS5
    clear h1 h2
    go_simp
    try rfl
  try simp only [Act.put, List.setIfInBounds_toArray, List.set_cons_zero, List.set_cons_succ]
  refine Rg.Upto.takeA (i := 10) (v := ?_) rfl (by kernel_rfl) (by kernel_rfl) (by kernel_rfl) (of_decide_eq_true (by kernel_rfl)) (fun _ _ _ h => h) (by rfl) (fun w5 hS5 => ?_) HSC ?_
  rotate_left
  · obtain ⟨h1, h2, h3⟩ := hS5
    have q2 := (Hp.blk_cell h1 2 rfl).1
    clear h1 h2
    go_simp
    try rfl
  try simp only [Act.put, List.setIfInBounds_toArray, List.set_cons_zero, List.set_cons_succ]
  refine Rg.Upto.takeA (i := 11) (v := ?_) rfl (by kernel_rfl) (by kernel_rfl) (by kernel_rfl) (of_decide_eq_true (by kernel_rfl)) (fun _ _ _ h => h) (by rfl) (fun w5 hS5 => ?_) HSC ?_
  rotate_left
  · obtain ⟨h1, h2, h3⟩ := hS5
    clear h1 h2
    go_simp
    try rfl
  try simp only [Act.put, List.setIfInBounds_toArray, List.set_cons_zero, List.set_cons_succ]
  refine Rg.Upto.takeA (i := 12) (v := ?_) rfl (by kernel_rfl) (by kernel_rfl) (by kernel_rfl) (of_decide_eq_true (by kernel_rfl)) (fun _ _ _ h => h) (by rfl) (fun w5 hS5 => ?_) HSC ?_
  rotate_left
  · obtain ⟨h1, h2, h3⟩ := hS5
    clear h1 h2
    go_simp
    try rfl
  try simp only [Act.put, List.setIfInBounds_toArray, List.set_cons_zero, List.set_cons_succ]
  refine Rg.Upto.takeA (i := 13) (v := ?_) rfl (by kernel_rfl) (by kernel_rfl) (by kernel_rfl) (of_decide_eq_true (by kernel_rfl)) (fun _ _ _ h => h) (by rfl) (fun w5 hS5 => ?_) HSC ?_
  rotate_left
  · obtain ⟨h1, h2, h3⟩ := hS5
    clear h1 h2
    go_simp
    try rfl
  try simp only [Act.put, List.setIfInBounds_toArray, List.set_cons_zero, List.set_cons_succ]
  refine Rg.Upto.takeA (i := 14) (v := ?_) rfl (by kernel_rfl) (by kernel_rfl) (by kernel_rfl) (of_decide_eq_true (by kernel_rfl)) (fun _ _ _ h => h) (by rfl) (fun w5 hS5 => ?_) HSC ?_
  rotate_left
  · obtain ⟨h1, h2, h3⟩ := hS5
    have x0 := (Hp.blk_cell h2 0 rfl).1
    clear h1 h2
    go_simp
    try rfl
  try simp only [Act.put, List.setIfInBounds_toArray, List.set_cons_zero, List.set_cons_succ]
  refine Rg.Upto.takeA (i := 15) (v := ?_) rfl (by kernel_rfl) (by kernel_rfl) (by kernel_rfl) (of_decide_eq_true (by kernel_rfl)) (fun _ _ _ h => h) (by rfl) (fun w5 hS5 => ?_) HSC ?_
  rotate_left
  · obtain ⟨h1, h2, h3⟩ := hS5
    clear h1 h2
    go_simp
    try rfl
  try simp only [Act.put, List.setIfInBounds_toArray, List.set_cons_zero, List.set_cons_succ]
  refine Rg.Upto.takeA (i := 16) (v := ?_) rfl (by kernel_rfl) (by kernel_rfl) (by kernel_rfl) (of_decide_eq_true (by kernel_rfl)) (fun _ _ _ h => h) (by rfl) (fun w5 hS5 => ?_) HSC ?_
  rotate_left
  · obtain ⟨h1, h2, h3⟩ := hS5
    have q0 := (Hp.blk_cell h1 0 rfl).1
    clear h1 h2
    go_simp
    try rfl
  try simp only [Act.put, List.setIfInBounds_toArray, List.set_cons_zero, List.set_cons_succ]
  refine Rg.Upto.takeA (i := 17) (v := ?_) rfl (by kernel_rfl) (by kernel_rfl) (by kernel_rfl) (of_decide_eq_true (by kernel_rfl)) (fun _ _ _ h => h) (by rfl) (fun w5 hS5 => ?_) HSC ?_
  rotate_left
  · obtain ⟨h1, h2, h3⟩ := hS5
    clear h1 h2
    go_simp
    try rfl
  try simp only [Act.put, List.setIfInBounds_toArray, List.set_cons_zero, List.set_cons_succ]
  refine Rg.Upto.takeA (i := 18) (v := ?_) rfl (by kernel_rfl) (by kernel_rfl) (by kernel_rfl) (of_decide_eq_true (by kernel_rfl)) (fun _ _ _ h => h) (by rfl) (fun w5 hS5 => ?_) HSC ?_
  rotate_left
  · obtain ⟨h1, h2, h3⟩ := hS5
    clear h1 h2
    go_simp
    try rfl
  try simp only [Act.put, List.setIfInBounds_toArray, List.set_cons_zero, List.set_cons_succ]
  refine Rg.Upto.takeA (i := 19) (v := ?_) rfl (by kernel_rfl) (by kernel_rfl) (by kernel_rfl) (of_decide_eq_true (by kernel_rfl)) (fun _ _ _ h => h) (by rfl) (fun w5 hS5 => ?_) HSC ?_
  rotate_left
  · obtain ⟨h1, h2, h3⟩ := hS5
    clear h1 h2
    go_simp
    try rfl
  try simp only [Act.put, List.setIfInBounds_toArray, List.set_cons_zero, List.set_cons_succ]
  refine Rg.Upto.takeA (i := 20) (v := ?_) rfl (by kernel_rfl) (by kernel_rfl) (by kernel_rfl) (of_decide_eq_true (by kernel_rfl)) (fun _ _ _ h => h) (by rfl) (fun w5 hS5 => ?_) HSC ?_
  rotate_left
  · obtain ⟨h1, h2, h3⟩ := hS5
    clear h1 h2
    go_simp
    try rfl
  try simp only [Act.put, List.setIfInBounds_toArray, List.set_cons_zero, List.set_cons_succ]
  refine Rg.Upto.takeA (i := 21) (v := ?_) rfl (by kernel_rfl) (by kernel_rfl) (by kernel_rfl) (of_decide_eq_true (by kernel_rfl)) (fun _ _ _ h => h) (by rfl) (fun w5 hS5 => ?_) HSC ?_
  rotate_left
  · obtain ⟨h1, h2, h3⟩ := hS5
    clear h1 h2
    go_simp
    try rfl
  try simp only [Act.put, List.setIfInBounds_toArray, List.set_cons_zero, List.set_cons_succ]
  refine Rg.Upto.takeA (i := 22) (v := ?_) rfl (by kernel_rfl) (by kernel_rfl) (by kernel_rfl) (of_decide_eq_true (by kernel_rfl)) (fun _ _ _ h => h) (by rfl) (fun w5 hS5 => ?_) HSC ?_
  rotate_left
  · obtain ⟨h1, h2, h3⟩ := hS5
    clear h1 h2
    go_simp
    try rfl
  try simp only [Act.put, List.setIfInBounds_toArray, List.set_cons_zero, List.set_cons_succ]
  refine Rg.Upto.takeA (i := 23) (v := ?_) rfl (by kernel_rfl) (by kernel_rfl) (by kernel_rfl) (of_decide_eq_true (by kernel_rfl)) (fun _ _ _ h => h) (by rfl) (fun w5 hS5 => ?_) HSC ?_
  rotate_left
  · obtain ⟨h1, h2, h3⟩ := hS5
    clear h1 h2
    go_simp
    try rfl
  try simp only [Act.put, List.setIfInBounds_toArray, List.set_cons_zero, List.set_cons_succ]
  refine Rg.Upto.takeA (i := 24) (v := ?_) rfl (by kernel_rfl) (by kernel_rfl) (by kernel_rfl) (of_decide_eq_true (by kernel_rfl)) (fun _ _ _ h => h) (by rfl) (fun w5 hS5 => ?_) HSC ?_
  rotate_left
  · obtain ⟨h1, h2, h3⟩ := hS5
    clear h1 h2
    go_simp
    try rfl
  try simp only [Act.put, List.setIfInBounds_toArray, List.set_cons_zero, List.set_cons_succ]
  clear HSC
  refine Rg.Upto.done (by kernel_rfl) ?_
  go_wp2_with (fail)
  go_ret
  exact ⟨by first | rfl | trivial, HB.out⟩
set_option maxHeartbeats 4000000 in
set_option maxRecDepth 100000 in
theorem fits3 {w : World} {t : Nat} {L : List S34} {M : List Int} {A Am : Option Addr} {ca cm : Nat} (h : IsT w t L M A Am ca cm) :
    Calls Try.prog 16 #[.pointer (some ⟨t, 0, none⟩), .agg #[.int .i64 0, .int .i64 3, .int .i64 3]] w fun e w' => e = .returned (.bool true) ∧ Below w.heap.size w w' := by
  have hb0 : Below w.heap.size w (w.alloc (.cells #[.int .i64 0, .int .i64 3, .int .i64 3] 45)) := (Below.refl _ w).alloc (Nat.le_refl _) _
  have HT := Lib.hid (h.below hb0)
  have KB := Lib.hid (Hp.blk_new w (.cells #[.int .i64 0, .int .i64 3, .int .i64 3] 45))
  have HB := Lib.hid hb0
  clear h hb0
  obtain ⟨q0, -⟩ := Hp.blk_cell KB.out 0 rfl
  obtain ⟨q1, -⟩ := Hp.blk_cell KB.out 1 rfl
  obtain ⟨q2, -⟩ := Hp.blk_cell KB.out 2 rfl
  have HW : Hid (header_Head_Words.f 10 0 3 3 = some 4) := Lib.hid (by decide +kernel)
  obtain ⟨r, hr⟩ : ∃ r : Int, r = 4 := ⟨_, rfl⟩
  rw [← hr] at HW
  have hr0 : (r == 0) = false := by rw [hr]; rfl
  clear hr
  go_enter Try.func16, Try.ntmps16
  go_upto_region 3 with (first
    | (go_at_call 32; ((with_reducible refine (header_Head_Words.calls 10 0 3 3 r _ HW.out).mono ?_); rintro e w2 ⟨rfl, hb9⟩; (have hb := below_any hb9); clear hb9 q0 q1 q2; replace HT := Lib.hid (HT.out.below hb); replace KB := Lib.hid ((hb.block _ (blk_lt KB.out)).trans KB.out); replace HB := Lib.hid (HB.out.trans (hb.mono HB.out.size)); clear hb)))
  replace HT := Lib.hid (HT.out.below (w' := w2.drew) ⟨rfl, rfl, rfl, Nat.le_refl _, fun _ _ => rfl⟩)
  have KB2 : Hid (w2.drew.heap[w.heap.size]? = some (.cells #[.int .i64 0, .int .i64 3, .int .i64 3] 45 (0, 0))) := Lib.hid KB.out
  replace HB := Lib.hid HB.out.drew
  clear KB
  refine Rg.Upto.start (fun w' => w'.heap[w.heap.size]? = some (.cells #[.int .i64 0, .int .i64 3, .int .i64 3] 45 (0, 0)) ∧ True) 1000 (by kernel_rfl) ⟨KB2.out, trivial⟩ (fun HSC => ?_)
  refine Rg.Upto.takeA (i := 0) (v := ?_) rfl (by kernel_rfl) (by kernel_rfl) (by kernel_rfl) (of_decide_eq_true (by kernel_rfl)) (fun _ _ _ h => h) (by rfl) (fun w5 hS5 => ?_) HSC ?_
  rotate_left
  · obtain ⟨h1, h2⟩ := hS5
    clear h1 h2
    go_simp
    try rfl
  try simp only [Act.put, List.setIfInBounds_toArray, List.set_cons_zero, List.set_cons_succ]
  refine Rg.Upto.takeA (i := 1) (v := ?_) rfl (by kernel_rfl) (by kernel_rfl) (by kernel_rfl) (of_decide_eq_true (by kernel_rfl)) (fun _ _ _ h => h) (by rfl) (fun w5 hS5 => ?_) HSC ?_
  rotate_left
  · obtain ⟨h1, h2⟩ := hS5
    have q1 := (Hp.blk_cell h1 1 rfl).1
    clear h1 h2
    go_simp
    try rfl
  try simp only [Act.put, List.setIfInBounds_toArray, List.set_cons_zero, List.set_cons_succ]
  refine Rg.Upto.takeA (i := 2) (v := ?_) rfl (by kernel_rfl) (by kernel_rfl) (by kernel_rfl) (of_decide_eq_true (by kernel_rfl)) (fun _ _ _ h => h) (by rfl) (fun w5 hS5 => ?_) HSC ?_
  rotate_left
  · obtain ⟨h1, h2⟩ := hS5
    clear h1 h2
    go_simp
    try rfl
  try simp only [Act.put, List.setIfInBounds_toArray, List.set_cons_zero, List.set_cons_succ]
  refine Rg.Upto.takeA (i := 3) (v := ?_) rfl (by kernel_rfl) (by kernel_rfl) (by kernel_rfl) (of_decide_eq_true (by kernel_rfl)) (fun _ _ _ h => h) (by rfl) (fun w5 hS5 => ?_) HSC ?_
  rotate_left
  · obtain ⟨h1, h2⟩ := hS5
    clear h1 h2
    go_simp
    try rfl
  try simp only [Act.put, List.setIfInBounds_toArray, List.set_cons_zero, List.set_cons_succ]
  refine Rg.Upto.skipA (i := 4) rfl (by kernel_rfl) (by kernel_rfl) (by kernel_rfl) (of_decide_eq_true (by kernel_rfl)) (fun _ _ _ h => h) (by rfl) HSC ?_
  try simp only [Act.put, List.setIfInBounds_toArray, List.set_cons_zero, List.set_cons_succ]
  refine Rg.Upto.skipA (i := 5) rfl (by kernel_rfl) (by kernel_rfl) (by kernel_rfl) (of_decide_eq_true (by kernel_rfl)) (fun _ _ _ h => h) (by rfl) HSC ?_
  try simp only [Act.put, List.setIfInBounds_toArray, List.set_cons_zero, List.set_cons_succ]
  refine Rg.Upto.skipA (i := 6) rfl (by kernel_rfl) (by kernel_rfl) (by kernel_rfl) (of_decide_eq_true (by kernel_rfl)) (fun _ _ _ h => h) (by rfl) HSC ?_
  try simp only [Act.put, List.setIfInBounds_toArray, List.set_cons_zero, List.set_cons_succ]
  refine Rg.Upto.skipA (i := 7) rfl (by kernel_rfl) (by kernel_rfl) (by kernel_rfl) (of_decide_eq_true (by kernel_rfl)) (fun _ _ _ h => h) (by rfl) HSC ?_
  try simp only [Act.put, List.setIfInBounds_toArray, List.set_cons_zero, List.set_cons_succ]
  refine Rg.Upto.skipA (i := 8) rfl (by kernel_rfl) (by kernel_rfl) (by kernel_rfl) (of_decide_eq_true (by kernel_rfl)) (fun _ _ _ h => h) (by rfl) HSC ?_
  try simp only [Act.put, List.setIfInBounds_toArray, List.set_cons_zero, List.set_cons_succ]
  refine Rg.Upto.skipA (i := 9) rfl (by kernel_rfl) (by kernel_rfl) (by kernel_rfl) (of_decide_eq_true (by kernel_rfl)) (fun _ _ _ h => h) (by rfl) HSC ?_
  try simp only [Act.put, List.setIfInBounds_toArray, List.set_cons_zero, List.set_cons_succ]
  refine Rg.Upto.skipA (i := 10) rfl (by kernel_rfl) (by kernel_rfl) (by kernel_rfl) (of_decide_eq_true (by kernel_rfl)) (fun _ _ _ h => h) (by rfl) HSC ?_
  try simp only [Act.put, List.setIfInBounds_toArray, List.set_cons_zero, List.set_cons_succ]
  refine Rg.Upto.skipA (i := 11) rfl (by kernel_rfl) (by kernel_rfl) (by kernel_rfl) (of_decide_eq_true (by kernel_rfl)) (fun _ _ _ h => h) (by rfl) HSC ?_
  try simp only [Act.put, List.setIfInBounds_toArray, List.set_cons_zero, List.set_cons_succ]
  refine Rg.Upto.skipA (i := 12) rfl (by kernel_rfl) (by kernel_rfl) (by kernel_rfl) (of_decide_eq_true (by kernel_rfl)) (fun _ _ _ h => h) (by rfl) HSC ?_
  try simp only [Act.put, List.setIfInBounds_toArray, List.set_cons_zero, List.set_cons_succ]
  refine Rg.Upto.skipA (i := 13) rfl (by kernel_rfl) (by kernel_rfl) (by kernel_rfl) (of_decide_eq_true (by kernel_rfl)) (fun _ _ _ h => h) (by rfl) HSC ?_
  try simp only [Act.put, List.setIfInBounds_toArray, List.set_cons_zero, List.set_cons_succ]
  refine Rg.Upto.skipA (i := 14) rfl (by kernel_rfl) (by kernel_rfl) (by kernel_rfl) (of_decide_eq_true (by kernel_rfl)) (fun _ _ _ h => h) (by rfl) HSC ?_
  try simp only [Act.put, List.setIfInBounds_toArray, List.set_cons_zero, List.set_cons_succ]
  refine Rg.Upto.skipA (i := 15) rfl (by kernel_rfl) (by kernel_rfl) (by kernel_rfl) (of_decide_eq_true (by kernel_rfl)) (fun _ _ _ h => h) (by rfl) HSC ?_
  try simp only [Act.put, List.setIfInBounds_toArray, List.set_cons_zero, List.set_cons_succ]
  refine Rg.Upto.skipA (i := 16) rfl (by kernel_rfl) (by kernel_rfl) (by kernel_rfl) (of_decide_eq_true (by kernel_rfl)) (fun _ _ _ h => h) (by rfl) HSC ?_
  try simp only [Act.put, List.setIfInBounds_toArray, List.set_cons_zero, List.set_cons_succ]
  refine Rg.Upto.skipA (i := 17) rfl (by kernel_rfl) (by kernel_rfl) (by kernel_rfl) (of_decide_eq_true (by kernel_rfl)) (fun _ _ _ h => h) (by rfl) HSC ?_
  try simp only [Act.put, List.setIfInBounds_toArray, List.set_cons_zero, List.set_cons_succ]
  refine Rg.Upto.skipA (i := 18) rfl (by kernel_rfl) (by kernel_rfl) (by kernel_rfl) (of_decide_eq_true (by kernel_rfl)) (fun _ _ _ h => h) (by rfl) HSC ?_
  try simp only [Act.put, List.setIfInBounds_toArray, List.set_cons_zero, List.set_cons_succ]
  refine Rg.Upto.skipA (i := 19) rfl (by kernel_rfl) (by kernel_rfl) (by kernel_rfl) (of_decide_eq_true (by kernel_rfl)) (fun _ _ _ h => h) (by rfl) HSC ?_
  try simp only [Act.put, List.setIfInBounds_toArray, List.set_cons_zero, List.set_cons_succ]
  refine Rg.Upto.skipA (i := 20) rfl (by kernel_rfl) (by kernel_rfl) (by kernel_rfl) (of_decide_eq_true (by kernel_rfl)) (fun _ _ _ h => h) (by rfl) HSC ?_
  try simp only [Act.put, List.setIfInBounds_toArray, List.set_cons_zero, List.set_cons_succ]
  refine Rg.Upto.skipA (i := 21) rfl (by kernel_rfl) (by kernel_rfl) (by kernel_rfl) (of_decide_eq_true (by kernel_rfl)) (fun _ _ _ h => h) (by rfl) HSC ?_
  try simp only [Act.put, List.setIfInBounds_toArray, List.set_cons_zero, List.set_cons_succ]
  refine Rg.Upto.skipA (i := 22) rfl (by kernel_rfl) (by kernel_rfl) (by kernel_rfl) (of_decide_eq_true (by kernel_rfl)) (fun _ _ _ h => h) (by rfl) HSC ?_
  try simp only [Act.put, List.setIfInBounds_toArray, List.set_cons_zero, List.set_cons_succ]
  refine Rg.Upto.takeA (i := 23) (v := ?_) rfl (by kernel_rfl) (by kernel_rfl) (by kernel_rfl) (of_decide_eq_true (by kernel_rfl)) (fun _ _ _ h => h) (by rfl) (fun w5 hS5 => ?_) HSC ?_
  rotate_left
  · obtain ⟨h1, h2⟩ := hS5
    clear h1 h2
    go_simp
    try rfl
  try simp only [Act.put, List.setIfInBounds_toArray, List.set_cons_zero, List.set_cons_succ]
  refine Rg.Upto.takeA (i := 24) (v := ?_) rfl (by kernel_rfl) (by kernel_rfl) (by kernel_rfl) (of_decide_eq_true (by kernel_rfl)) (fun _ _ _ h => h) (by rfl) (fun w5 hS5 => ?_) HSC ?_
  rotate_left
  · obtain ⟨h1, h2⟩ := hS5
    clear h1 h2
    go_simp
    try rfl
  try simp only [Act.put, List.setIfInBounds_toArray, List.set_cons_zero, List.set_cons_succ]
  clear HSC
  refine Rg.Upto.done (by kernel_rfl) ?_
  go_wp2_with (fail)
  go_ret
  exact ⟨by first | rfl | trivial, HB.out⟩
set_option maxHeartbeats 4000000 in
set_option maxRecDepth 100000 in
theorem isRef1_0 {w : World} {t : Nat} {L : List S34} {M : List Int} {A Am : Option Addr} {ca cm : Nat} (h : IsT w t L M A Am ca cm) (c n : Nat) (hc : c < L.length) (hn : n = (rd_T34 L c).f1.length) (r : Int) (hw : header_Head_Words.f 10 c 1 n = some r) (hr : r ≠ 0) (hn2 : 2 ≤ n) (hm : M.getD c 0 = 1) :
    Calls Try.prog 26 #[.pointer (some ⟨t, 0, none⟩), .agg #[.int .i64 c, .int .i64 1, .int .i64 n], .int .i64 0] w fun e w' => e = .returned (.bool true) ∧ Below w.heap.size w w' := by
  have hb0 : Below w.heap.size w (w.alloc (.cells #[.int .i64 c, .int .i64 1, .int .i64 n] 45)) := (Below.refl _ w).alloc (Nat.le_refl _) _
  have HT := Lib.hid (h.below hb0)
  have KB := Lib.hid (Hp.blk_new w (.cells #[.int .i64 c, .int .i64 1, .int .i64 n] 45))
  have HB := Lib.hid hb0
  obtain ⟨adm, hAm, hmc⟩ := row_ints1 HT.out.mm (by rw [HT.out.lm]; omega)
  subst hAm
  have HMC : Hid ((w.alloc (.cells #[.int .i64 c, .int .i64 1, .int .i64 n] 45)).cell? (adm.add c) = some (.int .u64 1)) := Lib.hid (by rw [hmc c (by rw [HT.out.lm]; exact hc), hm])
  have hft := fun (wx : World) (hx : IsT wx t L M A (some adm) ca cm) => fits1 hx c n hc hn r hw hr
  have HFT := Lib.hid hft
  have HC := Lib.hid (And.intro hc (show L.length = M.length from HT.out.lm.symm))
  clear hft hmc hm h hb0 hw hr hn
  obtain ⟨q0, -⟩ := Hp.blk_cell KB.out 0 rfl
  obtain ⟨q1, -⟩ := Hp.blk_cell KB.out 1 rfl
  obtain ⟨q2, -⟩ := Hp.blk_cell KB.out 2 rfl
  have b2 : ¬ (n : Int) ≤ 0 := by omega
  have b3 : decide ((n : Int) ≤ 0) = false := decide_eq_false b2
  go_enter Try.func26, Try.ntmps26
  go_upto_region 4 with (first
    | (go_at_call 16; ((with_reducible refine (HFT.out _ HT.out).mono ?_); rintro e w2 ⟨rfl, hb⟩; clear q0 q1 q2; replace HT := Lib.hid (HT.out.below hb); replace KB := Lib.hid ((hb.block _ (blk_lt KB.out)).trans KB.out); replace HMC := Lib.hid ((hb.cell (World.block_lt_of_cell? _ _ HMC.out)).trans HMC.out); replace HB := Lib.hid (HB.out.trans (hb.mono HB.out.size)); clear hb; (obtain ⟨q0, -⟩ := Hp.blk_cell KB.out 0 rfl); (obtain ⟨q1, -⟩ := Hp.blk_cell KB.out 1 rfl); (obtain ⟨q2, -⟩ := Hp.blk_cell KB.out 2 rfl))))
  clear q0 q1 q2
  replace HT := Lib.hid (HT.out.below (w' := w2.drew) ⟨rfl, rfl, rfl, Nat.le_refl _, fun _ _ => rfl⟩)
  have KB2 : Hid (w2.drew.heap[w.heap.size]? = some (.cells #[.int .i64 c, .int .i64 1, .int .i64 n] 45 (0, 0))) := Lib.hid KB.out
  replace HB := Lib.hid HB.out.drew
  clear KB
  have HR2 : Hid (w2.drew.cell? (adm.add c) = some (.int .u64 1)) := Lib.hid HMC.out
  clear HMC
  have hc := HC.out.1
  have hcm : c < M.length := by rw [← HC.out.2]; exact hc
  refine Rg.Upto.start (fun w' => w'.heap[w.heap.size]? = some (.cells #[.int .i64 c, .int .i64 1, .int .i64 n] 45 (0, 0)) ∧ w'.heap[t]? = some (.cells #[.slice A L.length ca, .slice (some adm) M.length cm] 64 (0, 0)) ∧ w'.cell? (adm.add c) = some (.int .u64 1)) 1000 (by kernel_rfl) ⟨KB2.out, HT.out.blk, HR2.out⟩ (fun HSC => ?_)
  refine Rg.Upto.takeA (i := 0) (v := ?_) rfl (by kernel_rfl) (by kernel_rfl) (by kernel_rfl) (of_decide_eq_true (by kernel_rfl)) (fun _ _ _ h => h) (by rfl) (fun w5 hS5 => ?_) HSC ?_
  rotate_left
  · obtain ⟨h1, h2, h3⟩ := hS5
    clear h1 h2
    go_simp
    try rfl
  try simp only [Act.put, List.setIfInBounds_toArray, List.set_cons_zero, List.set_cons_succ]
  refine Rg.Upto.takeA (i := 1) (v := ?_) rfl (by kernel_rfl) (by kernel_rfl) (by kernel_rfl) (of_decide_eq_true (by kernel_rfl)) (fun _ _ _ h => h) (by rfl) (fun w5 hS5 => ?_) HSC ?_
  rotate_left
  · obtain ⟨h1, h2, h3⟩ := hS5
    clear h1 h2
    go_simp
    try rfl
  try simp only [Act.put, List.setIfInBounds_toArray, List.set_cons_zero, List.set_cons_succ]
  refine Rg.Upto.takeA (i := 2) (v := ?_) rfl (by kernel_rfl) (by kernel_rfl) (by kernel_rfl) (of_decide_eq_true (by kernel_rfl)) (fun _ _ _ h => h) (by rfl) (fun w5 hS5 => ?_) HSC ?_
  rotate_left
  · obtain ⟨h1, h2, h3⟩ := hS5
    clear h1 h2
    go_simp
    try rfl
  try simp only [Act.put, List.setIfInBounds_toArray, List.set_cons_zero, List.set_cons_succ]
  refine Rg.Upto.takeA (i := 3) (v := ?_) rfl (by kernel_rfl) (by kernel_rfl) (by kernel_rfl) (of_decide_eq_true (by kernel_rfl)) (fun _ _ _ h => h) (by rfl) (fun w5 hS5 => ?_) HSC ?_
  rotate_left
  · obtain ⟨h1, h2, h3⟩ := hS5
    have x1 := (Hp.blk_cell h2 1 rfl).1
    clear h1 h2
    go_simp
    try rfl
  try simp only [Act.put, List.setIfInBounds_toArray, List.set_cons_zero, List.set_cons_succ]
  refine Rg.Upto.takeA (i := 4) (v := ?_) rfl (by kernel_rfl) (by kernel_rfl) (by kernel_rfl) (of_decide_eq_true (by kernel_rfl)) (fun _ _ _ h => h) (by rfl) (fun w5 hS5 => ?_) HSC ?_
  rotate_left
  · obtain ⟨h1, h2, h3⟩ := hS5
    clear h1 h2
    go_simp
    try rfl
  try simp only [Act.put, List.setIfInBounds_toArray, List.set_cons_zero, List.set_cons_succ]
  refine Rg.Upto.takeA (i := 5) (v := ?_) rfl (by kernel_rfl) (by kernel_rfl) (by kernel_rfl) (of_decide_eq_true (by kernel_rfl)) (fun _ _ _ h => h) (by rfl) (fun w5 hS5 => ?_) HSC ?_
  rotate_left
  · obtain ⟨h1, h2, h3⟩ := hS5
    have q0 := (Hp.blk_cell h1 0 rfl).1
    clear h1 h2
    go_simp
    try rfl
  try simp only [Act.put, List.setIfInBounds_toArray, List.set_cons_zero, List.set_cons_succ]
  refine Rg.Upto.takeA (i := 6) (v := ?_) rfl (by kernel_rfl) (by kernel_rfl) (by kernel_rfl) (of_decide_eq_true (by kernel_rfl)) (fun _ _ _ h => h) (by rfl) (fun w5 hS5 => ?_) HSC ?_
  rotate_left
  · obtain ⟨h1, h2, h3⟩ := hS5
    clear h1 h2
    go_simp
    try rfl
  try simp only [Act.put, List.setIfInBounds_toArray, List.set_cons_zero, List.set_cons_succ]
  refine Rg.Upto.takeA (i := 7) (v := ?_) rfl (by kernel_rfl) (by kernel_rfl) (by kernel_rfl) (of_decide_eq_true (by kernel_rfl)) (fun _ _ _ h => h) (by rfl) (fun w5 hS5 => ?_) HSC ?_
  rotate_left
  · obtain ⟨h1, h2, h3⟩ := hS5
    clear h1 h2
    go_simp
    try rfl
  try simp only [Act.put, List.setIfInBounds_toArray, List.set_cons_zero, List.set_cons_succ]
  refine Rg.Upto.takeA (i := 8) (v := ?_) rfl (by kernel_rfl) (by kernel_rfl) (by kernel_rfl) (of_decide_eq_true (by kernel_rfl)) (fun _ _ _ h => h) (by rfl) (fun w5 hS5 => ?_) HSC ?_
  rotate_left
  · obtain ⟨h1, h2, h3⟩ := hS5
    clear h1 h2
    go_simp
    try rfl
  try simp only [Act.put, List.setIfInBounds_toArray, List.set_cons_zero, List.set_cons_succ]
  refine Rg.Upto.takeA (i := 9) (v := ?_) rfl (by kernel_rfl) (by kernel_rfl) (by kernel_rfl) (of_decide_eq_true (by kernel_rfl)) (fun _ _ _ h => h) (by rfl) (fun w5 hS5 => ?_) HSC ?_
  rotate_left
  · obtain ⟨h1, h2, h3⟩ := hS5
    clear h1 h2
    go_simp
    try rfl
  try simp only [Act.put, List.setIfInBounds_toArray, List.set_cons_zero, List.set_cons_succ]
  refine Rg.Upto.takeA (i := 10) (v := ?_) rfl (by kernel_rfl) (by kernel_rfl) (by kernel_rfl) (of_decide_eq_true (by kernel_rfl)) (fun _ _ _ h => h) (by rfl) (fun w5 hS5 => ?_) HSC ?_
  rotate_left
  · obtain ⟨h1, h2, h3⟩ := hS5
    clear h1 h2
    go_simp
    try rfl
  try simp only [Act.put, List.setIfInBounds_toArray, List.set_cons_zero, List.set_cons_succ]
  refine Rg.Upto.takeA (i := 11) (v := ?_) rfl (by kernel_rfl) (by kernel_rfl) (by kernel_rfl) (of_decide_eq_true (by kernel_rfl)) (fun _ _ _ h => h) (by rfl) (fun w5 hS5 => ?_) HSC ?_
  rotate_left
  · obtain ⟨h1, h2, h3⟩ := hS5
    clear h1 h2
    go_simp
    try rfl
  try simp only [Act.put, List.setIfInBounds_toArray, List.set_cons_zero, List.set_cons_succ]
  refine Rg.Upto.takeA (i := 12) (v := ?_) rfl (by kernel_rfl) (by kernel_rfl) (by kernel_rfl) (of_decide_eq_true (by kernel_rfl)) (fun _ _ _ h => h) (by rfl) (fun w5 hS5 => ?_) HSC ?_
  rotate_left
  · obtain ⟨h1, h2, h3⟩ := hS5
    clear h1 h2
    go_simp
    try rfl
  try simp only [Act.put, List.setIfInBounds_toArray, List.set_cons_zero, List.set_cons_succ]
  clear HSC
  refine Rg.Upto.done (by kernel_rfl) ?_
  go_wp2_with (fail)
  go_ret
  exact ⟨by first | rfl | trivial | decide, HB.out⟩
set_option maxHeartbeats 4000000 in
set_option maxRecDepth 100000 in
theorem isRef1_1 {w : World} {t : Nat} {L : List S34} {M : List Int} {A Am : Option Addr} {ca cm : Nat} (h : IsT w t L M A Am ca cm) (c n : Nat) (hc : c < L.length) (hn : n = (rd_T34 L c).f1.length) (r : Int) (hw : header_Head_Words.f 10 c 1 n = some r) (hr : r ≠ 0) (hn2 : 2 ≤ n) (hm : M.getD c 0 = 1) :
    Calls Try.prog 26 #[.pointer (some ⟨t, 0, none⟩), .agg #[.int .i64 c, .int .i64 1, .int .i64 n], .int .i64 1] w fun e w' => e = .returned (.bool false) ∧ Below w.heap.size w w' := by
  have hb0 : Below w.heap.size w (w.alloc (.cells #[.int .i64 c, .int .i64 1, .int .i64 n] 45)) := (Below.refl _ w).alloc (Nat.le_refl _) _
  have HT := Lib.hid (h.below hb0)
  have KB := Lib.hid (Hp.blk_new w (.cells #[.int .i64 c, .int .i64 1, .int .i64 n] 45))
  have HB := Lib.hid hb0
  obtain ⟨adm, hAm, hmc⟩ := row_ints1 HT.out.mm (by rw [HT.out.lm]; omega)
  subst hAm
  have HMC : Hid ((w.alloc (.cells #[.int .i64 c, .int .i64 1, .int .i64 n] 45)).cell? (adm.add c) = some (.int .u64 1)) := Lib.hid (by rw [hmc c (by rw [HT.out.lm]; exact hc), hm])
  have hft := fun (wx : World) (hx : IsT wx t L M A (some adm) ca cm) => fits1 hx c n hc hn r hw hr
  have HFT := Lib.hid hft
  have HC := Lib.hid (And.intro hc (show L.length = M.length from HT.out.lm.symm))
  clear hft hmc hm h hb0 hw hr hn
  obtain ⟨q0, -⟩ := Hp.blk_cell KB.out 0 rfl
  obtain ⟨q1, -⟩ := Hp.blk_cell KB.out 1 rfl
  obtain ⟨q2, -⟩ := Hp.blk_cell KB.out 2 rfl
  have b2 : ¬ (n : Int) ≤ 1 := by omega
  have b3 : decide ((n : Int) ≤ 1) = false := decide_eq_false b2
  go_enter Try.func26, Try.ntmps26
  go_upto_region 4 with (first
    | (go_at_call 16; ((with_reducible refine (HFT.out _ HT.out).mono ?_); rintro e w2 ⟨rfl, hb⟩; clear q0 q1 q2; replace HT := Lib.hid (HT.out.below hb); replace KB := Lib.hid ((hb.block _ (blk_lt KB.out)).trans KB.out); replace HMC := Lib.hid ((hb.cell (World.block_lt_of_cell? _ _ HMC.out)).trans HMC.out); replace HB := Lib.hid (HB.out.trans (hb.mono HB.out.size)); clear hb; (obtain ⟨q0, -⟩ := Hp.blk_cell KB.out 0 rfl); (obtain ⟨q1, -⟩ := Hp.blk_cell KB.out 1 rfl); (obtain ⟨q2, -⟩ := Hp.blk_cell KB.out 2 rfl))))
  clear q0 q1 q2
  replace HT := Lib.hid (HT.out.below (w' := w2.drew) ⟨rfl, rfl, rfl, Nat.le_refl _, fun _ _ => rfl⟩)
  have KB2 : Hid (w2.drew.heap[w.heap.size]? = some (.cells #[.int .i64 c, .int .i64 1, .int .i64 n] 45 (0, 0))) := Lib.hid KB.out
  replace HB := Lib.hid HB.out.drew
  clear KB
  have HR2 : Hid (w2.drew.cell? (adm.add c) = some (.int .u64 1)) := Lib.hid HMC.out
  clear HMC
  have hc := HC.out.1
  have hcm : c < M.length := by rw [← HC.out.2]; exact hc
  refine Rg.Upto.start (fun w' => w'.heap[w.heap.size]? = some (.cells #[.int .i64 c, .int .i64 1, .int .i64 n] 45 (0, 0)) ∧ w'.heap[t]? = some (.cells #[.slice A L.length ca, .slice (some adm) M.length cm] 64 (0, 0)) ∧ w'.cell? (adm.add c) = some (.int .u64 1)) 1000 (by kernel_rfl) ⟨KB2.out, HT.out.blk, HR2.out⟩ (fun HSC => ?_)
  refine Rg.Upto.takeA (i := 0) (v := ?_) rfl (by kernel_rfl) (by kernel_rfl) (by kernel_rfl) (of_decide_eq_true (by kernel_rfl)) (fun _ _ _ h => h) (by rfl) (fun w5 hS5 => ?_) HSC ?_
  rotate_left
  · obtain ⟨h1, h2, h3⟩ := hS5
    clear h1 h2
    go_simp
    try rfl
  try simp only [Act.put, List.setIfInBounds_toArray, List.set_cons_zero, List.set_cons_succ]
  refine Rg.Upto.takeA (i := 1) (v := ?_) rfl (by kernel_rfl) (by kernel_rfl) (by kernel_rfl) (of_decide_eq_true (by kernel_rfl)) (fun _ _ _ h => h) (by rfl) (fun w5 hS5 => ?_) HSC ?_
  rotate_left
  · obtain ⟨h1, h2, h3⟩ := hS5
    clear h1 h2
    go_simp
    try rfl
  try simp only [Act.put, List.setIfInBounds_toArray, List.set_cons_zero, List.set_cons_succ]
  refine Rg.Upto.takeA (i := 2) (v := ?_) rfl (by kernel_rfl) (by kernel_rfl) (by kernel_rfl) (of_decide_eq_true (by kernel_rfl)) (fun _ _ _ h => h) (by rfl) (fun w5 hS5 => ?_) HSC ?_
  rotate_left
  · obtain ⟨h1, h2, h3⟩ := hS5
    clear h1 h2
    go_simp
    try rfl
  try simp only [Act.put, List.setIfInBounds_toArray, List.set_cons_zero, List.set_cons_succ]
  refine Rg.Upto.takeA (i := 3) (v := ?_) rfl (by kernel_rfl) (by kernel_rfl) (by kernel_rfl) (of_decide_eq_true (by kernel_rfl)) (fun _ _ _ h => h) (by rfl) (fun w5 hS5 => ?_) HSC ?_
  rotate_left
  · obtain ⟨h1, h2, h3⟩ := hS5
    have x1 := (Hp.blk_cell h2 1 rfl).1
    clear h1 h2
    go_simp
    try rfl
  try simp only [Act.put, List.setIfInBounds_toArray, List.set_cons_zero, List.set_cons_succ]
  refine Rg.Upto.takeA (i := 4) (v := ?_) rfl (by kernel_rfl) (by kernel_rfl) (by kernel_rfl) (of_decide_eq_true (by kernel_rfl)) (fun _ _ _ h => h) (by rfl) (fun w5 hS5 => ?_) HSC ?_
  rotate_left
  · obtain ⟨h1, h2, h3⟩ := hS5
    clear h1 h2
    go_simp
    try rfl
  try simp only [Act.put, List.setIfInBounds_toArray, List.set_cons_zero, List.set_cons_succ]
  refine Rg.Upto.takeA (i := 5) (v := ?_) rfl (by kernel_rfl) (by kernel_rfl) (by kernel_rfl) (of_decide_eq_true (by kernel_rfl)) (fun _ _ _ h => h) (by rfl) (fun w5 hS5 => ?_) HSC ?_
  rotate_left
  · obtain ⟨h1, h2, h3⟩ := hS5
    have q0 := (Hp.blk_cell h1 0 rfl).1
    clear h1 h2
    go_simp
    try rfl
  try simp only [Act.put, List.setIfInBounds_toArray, List.set_cons_zero, List.set_cons_succ]
  refine Rg.Upto.takeA (i := 6) (v := ?_) rfl (by kernel_rfl) (by kernel_rfl) (by kernel_rfl) (of_decide_eq_true (by kernel_rfl)) (fun _ _ _ h => h) (by rfl) (fun w5 hS5 => ?_) HSC ?_
  rotate_left
  · obtain ⟨h1, h2, h3⟩ := hS5
    clear h1 h2
    go_simp
    try rfl
  try simp only [Act.put, List.setIfInBounds_toArray, List.set_cons_zero, List.set_cons_succ]
  refine Rg.Upto.takeA (i := 7) (v := ?_) rfl (by kernel_rfl) (by kernel_rfl) (by kernel_rfl) (of_decide_eq_true (by kernel_rfl)) (fun _ _ _ h => h) (by rfl) (fun w5 hS5 => ?_) HSC ?_
  rotate_left
  · obtain ⟨h1, h2, h3⟩ := hS5
    clear h1 h2
    go_simp
    try rfl
  try simp only [Act.put, List.setIfInBounds_toArray, List.set_cons_zero, List.set_cons_succ]
  refine Rg.Upto.takeA (i := 8) (v := ?_) rfl (by kernel_rfl) (by kernel_rfl) (by kernel_rfl) (of_decide_eq_true (by kernel_rfl)) (fun _ _ _ h => h) (by rfl) (fun w5 hS5 => ?_) HSC ?_
  rotate_left
  · obtain ⟨h1, h2, h3⟩ := hS5
    clear h1 h2
    go_simp
    try rfl
  try simp only [Act.put, List.setIfInBounds_toArray, List.set_cons_zero, List.set_cons_succ]
  refine Rg.Upto.takeA (i := 9) (v := ?_) rfl (by kernel_rfl) (by kernel_rfl) (by kernel_rfl) (of_decide_eq_true (by kernel_rfl)) (fun _ _ _ h => h) (by rfl) (fun w5 hS5 => ?_) HSC ?_
  rotate_left
  · obtain ⟨h1, h2, h3⟩ := hS5
    clear h1 h2
    go_simp
    try rfl
  try simp only [Act.put, List.setIfInBounds_toArray, List.set_cons_zero, List.set_cons_succ]
  refine Rg.Upto.takeA (i := 10) (v := ?_) rfl (by kernel_rfl) (by kernel_rfl) (by kernel_rfl) (of_decide_eq_true (by kernel_rfl)) (fun _ _ _ h => h) (by rfl) (fun w5 hS5 => ?_) HSC ?_
  rotate_left
  · obtain ⟨h1, h2, h3⟩ := hS5
    clear h1 h2
    go_simp
    try rfl
  try simp only [Act.put, List.setIfInBounds_toArray, List.set_cons_zero, List.set_cons_succ]
  refine Rg.Upto.takeA (i := 11) (v := ?_) rfl (by kernel_rfl) (by kernel_rfl) (by kernel_rfl) (of_decide_eq_true (by kernel_rfl)) (fun _ _ _ h => h) (by rfl) (fun w5 hS5 => ?_) HSC ?_
  rotate_left
  · obtain ⟨h1, h2, h3⟩ := hS5
    clear h1 h2
    go_simp
    try rfl
  try simp only [Act.put, List.setIfInBounds_toArray, List.set_cons_zero, List.set_cons_succ]
  refine Rg.Upto.takeA (i := 12) (v := ?_) rfl (by kernel_rfl) (by kernel_rfl) (by kernel_rfl) (of_decide_eq_true (by kernel_rfl)) (fun _ _ _ h => h) (by rfl) (fun w5 hS5 => ?_) HSC ?_
  rotate_left
  · obtain ⟨h1, h2, h3⟩ := hS5
    clear h1 h2
    go_simp
    try rfl
  try simp only [Act.put, List.setIfInBounds_toArray, List.set_cons_zero, List.set_cons_succ]
  clear HSC
  refine Rg.Upto.done (by kernel_rfl) ?_
  go_wp2_with (fail)
  go_ret
  exact ⟨by first | rfl | trivial | decide, HB.out⟩
set_option maxHeartbeats 4000000 in
set_option maxRecDepth 100000 in
theorem isRef3 {w : World} {t : Nat} {L : List S34} {M : List Int} {A Am : Option Addr} {ca cm : Nat} (h : IsT w t L M A Am ca cm) :
    Calls Try.prog 26 #[.pointer (some ⟨t, 0, none⟩), .agg #[.int .i64 0, .int .i64 3, .int .i64 3], .int .i64 2] w fun e w' => e = .returned (.bool true) ∧ Below w.heap.size w w' := by
  have hb0 : Below w.heap.size w (w.alloc (.cells #[.int .i64 0, .int .i64 3, .int .i64 3] 45)) := (Below.refl _ w).alloc (Nat.le_refl _) _
  have HT := Lib.hid (h.below hb0)
  have KB := Lib.hid (Hp.blk_new w (.cells #[.int .i64 0, .int .i64 3, .int .i64 3] 45))
  have HB := Lib.hid hb0
  clear h hb0
  obtain ⟨q0, -⟩ := Hp.blk_cell KB.out 0 rfl
  obtain ⟨q1, -⟩ := Hp.blk_cell KB.out 1 rfl
  obtain ⟨q2, -⟩ := Hp.blk_cell KB.out 2 rfl
  go_enter Try.func26, Try.ntmps26
  go_wp2_with (first
    | (go_at_call 16; ((with_reducible refine (fits3 HT.out).mono ?_); rintro e w2 ⟨rfl, hb⟩; clear q0 q1 q2; replace KB := Lib.hid ((hb.block _ (blk_lt KB.out)).trans KB.out); replace HB := Lib.hid (HB.out.trans (hb.mono HB.out.size)); clear hb; (obtain ⟨q0, -⟩ := Hp.blk_cell KB.out 0 rfl); (obtain ⟨q1, -⟩ := Hp.blk_cell KB.out 1 rfl); (obtain ⟨q2, -⟩ := Hp.blk_cell KB.out 2 rfl))))
  go_ret
  exact ⟨by first | rfl | trivial, HB.out⟩
end Go.Proofs.Yteankgbcmfkfnaa.Cl

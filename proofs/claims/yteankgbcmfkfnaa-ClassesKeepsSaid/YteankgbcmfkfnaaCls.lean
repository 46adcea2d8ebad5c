/- A class that is told. -/
import Derived.Test.YteankgbcmfkfnaaTab
namespace Go.Proofs.Yteankgbcmfkfnaa.Cl
open Go Go.RowKit Go.Proofs.Yteankgbcmfkfnaa.Hp Go.Proofs.Yteankgbcmfkfnaa.PH
open Go.Proofs.YteankgbcmfkfnaaW.PrintWords (bt Kd)
open Go.Proofs.YteankgbcmfkfnaaW.PrintWords.Kd (C_below R_reads R_lower)
set_option linter.unusedVariables false
set_option linter.unusedSimpArgs false

set_option maxHeartbeats 2000000 in
set_option maxRecDepth 100000 in
theorem class_no {w : World} {t : Nat} {L : List S34} {M : List Int} {A Am : Option Addr} {ca cm : Nat} (h : IsT w t L M A Am ca cm) (c : Int) (hc : ¬ (0 ≤ c ∧ c < L.length)) :
    Calls Try.prog 14 #[.pointer (some ⟨t, 0, none⟩), .int .i64 c] w fun e w' => e = .returned (.tuple #[.agg #[.string { data := #[] }, .slice none 0 0], .int .i64 21]) ∧ Below w.heap.size w w' := by
  have hb0 : Below w.heap.size w (w.alloc (.cells #[.string { data := #[] }, .slice none 0 0] 34)) := (Below.refl _ w).alloc (Nat.le_refl _) _
  have HT := Lib.hid (h.below hb0)
  have KB := Lib.hid (Hp.blk_new w (.cells #[.string { data := #[] }, .slice none 0 0] 34))
  have HB := Lib.hid hb0
  have hkn : decide (0 ≤ c ∧ c < (L.length : Int)) = false := decide_eq_false hc
  have HK : Hid (Calls Try.prog 31 #[.pointer (some ⟨t, 0, none⟩), .int .i64 c] (w.alloc (.cells #[.string { data := #[] }, .slice none 0 0] 34)) fun e w' => e = .returned (.bool false) ∧ w' = w.alloc (.cells #[.string { data := #[] }, .slice none 0 0] 34)) := Lib.hid (by
    have := known_call HT.out c
    rw [hkn] at this
    exact this)
  obtain ⟨q0, g0⟩ := Hp.blk_cell KB.out 0 rfl
  obtain ⟨q1, g1⟩ := Hp.blk_cell KB.out 1 rfl
  clear h hb0 hkn hc
  go_enter Try.func14, Try.ntmps14
  go_wp2_with (first
    | (go_at_call 31; go_loud ((with_reducible refine HK.out.mono ?_); rintro e w9 ⟨rfl, hw⟩; obtain rfl := hw.symm)))
  refine bodyPost_ret (Go.Proofs.YteankgbcmfkfnaaW.PrintWords.results_ct (fn := Try.f14) (p := 4) (u := 5) (ty := 34) rfl _ _ w.heap.size 34 #[.string { data := #[] }, .slice none 0 0] (0, 0) _ ?hp (Hp.blk_new _ _) Try.underlying34 ?hd ?hi) rfl ?_
  case hp => rfl
  case hd => rfl
  case hi => kernel_rfl
  exact ⟨rfl, (Below.refl _ w).alloc (Nat.le_refl _) _⟩
set_option maxHeartbeats 2000000 in
set_option maxRecDepth 100000 in
theorem class_yes {w : World} {t : Nat} {L : List S34} {M : List Int} {A Am : Option Addr} {ca cm : Nat} (h : IsT w t L M A Am ca cm) (c : Nat) (hc : c < L.length) (h15 : (rd_T34 L c).f1.length ≤ 15) :
    Calls Try.prog 14 #[.pointer (some ⟨t, 0, none⟩), .int .i64 c] w fun e w' => ∃ v, e = .returned (.tuple #[.agg #[.string (rd_T34 L c).f0, v], .int .i64 0]) ∧ Kd.R k41 41 w' w.heap.size (fun _ => True) v (rd_T34 L c).f1 ∧ Below w.heap.size w w' := by
  have hb0 : Below w.heap.size w (w.alloc (.cells #[.string { data := #[] }, .slice none 0 0] 34)) := (Below.refl _ w).alloc (Nat.le_refl _) _
  have HT := Lib.hid (h.below hb0)
  have KB := Lib.hid (Hp.blk_new w (.cells #[.string { data := #[] }, .slice none 0 0] 34))
  have HB := Lib.hid hb0
  obtain ⟨x0, -⟩ := Hp.blk_cell HT.out.blk 0 rfl
  obtain ⟨q0, g0⟩ := Hp.blk_cell KB.out 0 rfl
  obtain ⟨q1, g1⟩ := Hp.blk_cell KB.out 1 rfl
  obtain ⟨ad, A1, c1, hA, r0, r1, hle, hC1⟩ := at_T34 HT.out.ll (c : Int) (by omega) (by omega)
  subst hA
  rw [Int.toNat_natCast] at r0 r1
  have HC := Lib.hid hc
  have hkn : decide (0 ≤ (c : Int) ∧ (c : Int) < (L.length : Int)) = true := decide_eq_true (by omega)
  have HK : Hid (Calls Try.prog 31 #[.pointer (some ⟨t, 0, none⟩), .int .i64 c] (w.alloc (.cells #[.string { data := #[] }, .slice none 0 0] 34)) fun e w' => e = .returned (.bool true) ∧ w' = w.alloc (.cells #[.string { data := #[] }, .slice none 0 0] 34)) := Lib.hid (by
    have := known_call HT.out (c : Int)
    rw [hkn] at this
    exact this)
  obtain ⟨x, hx⟩ : ∃ x, x = rd_T34 L (c : Int) := ⟨_, rfl⟩
  rw [← hx] at r0 r1 hle hC1 h15 ⊢
  obtain ⟨f0, f1⟩ := x
  have HCP := Lib.hid (classes_copied.calls f0 A1 c1 f1 f0 f1 _ hC1 hle (copied_eq f0 f1 h15))
  simp only at r0 r1
  clear hx h hb0 hkn hle hC1 h15
  go_enter Try.func14, Try.ntmps14
  go_wp2_with (first
    | (go_at_call 31; go_loud ((with_reducible refine HK.out.mono ?_); rintro e w9 ⟨rfl, hw⟩; obtain rfl := hw.symm))
    | (go_at_call 29; go_loud ((with_reducible refine HCP.out.mono ?_); rintro e w2 ⟨v1, rfl, hR, hb⟩; (obtain ⟨A9, c9, h9, -, -⟩ := R_reads hR); subst h9; (have HR1 := Lib.hid hR); (have hkb := (hb.block _ (blk_lt KB.out)).trans KB.out); clear q0 q1 g0 g1 r0 r1 x0; (have KB2 := Lib.hid hkb); (replace HB := Lib.hid (HB.out.trans (hb.mono HB.out.size))); clear hR hb hkb HCP HT HK; (obtain ⟨q0, g0⟩ := Hp.blk_cell KB2.out 0 rfl); (obtain ⟨q1, g1⟩ := Hp.blk_cell KB2.out 1 rfl); (have k00 := Hp.blk_set KB2.out 0 (.string f0)); (obtain ⟨q11, g11⟩ := Hp.blk_cell k00 1 rfl); clear k00)))
  have k0 := Hp.blk_set KB2.out 0 (.string f0)
  have k1 := Hp.blk_set k0 1 (.slice A9 f1.length c9)
  refine bodyPost_ret (Go.Proofs.YteankgbcmfkfnaaW.PrintWords.results_ct (fn := Try.f14) (p := 4) (u := 5) (ty := 34) rfl _ _ w.heap.size 34 #[.string f0, .slice A9 f1.length c9] (0, 0) _ ?hp (by exact k1) Try.underlying34 ?hd ?hi) rfl ?_
  case hp => rfl
  case hd => rfl
  case hi => kernel_rfl
  have hF0 : Fr (fun k => k = w.heap.size) w2 (w2.setCell ⟨w.heap.size, 0, none⟩ (.string f0)) := (Fr.refl _ w2).setCell _ _ (.inl rfl)
  have hF : Fr (fun k => k = w.heap.size) w2 ((w2.setCell ⟨w.heap.size, 0, none⟩ (.string f0)).setCell ⟨w.heap.size, 1, none⟩ (.slice A9 f1.length c9)) := hF0.setCell _ _ (.inl rfl)
  refine ⟨_, rfl, ?_, Fr.toBelow HB.out HB.out.size hF (fun k hk => by rw [hk]; exact Nat.le_refl _)⟩
  refine R_fr (R_lower HR1.out (by simp)) hF (fun k q cells hc hq e => ?_)
  subst e
  rw [KB2.out] at hc
  injection hc with hc
  injection hc with _ hc
  have : q ∈ [41] := hq
  simp at this
  rw [this] at hc
  cases hc
end Go.Proofs.Yteankgbcmfkfnaa.Cl

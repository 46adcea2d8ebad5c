/- ClassesSame. -/
import Derived.Test.YteankgbcmfkfnaaSa
namespace Go.Proofs.Yteankgbcmfkfnaa.Cl
open Go Go.RowKit Go.Proofs.Yteankgbcmfkfnaa.Hp Go.Proofs.Yteankgbcmfkfnaa.PH
open Go.Proofs.YteankgbcmfkfnaaW.PrintWords (bt Kd Drawn0)
open Go.Proofs.YteankgbcmfkfnaaW.PrintWords.Kd (C_below R_reads R_lower)
set_option linter.unusedVariables false
set_option linter.unusedSimpArgs false

theorem same_refl {w : World} {s : Nat} {a : List S34} {M : List Int} {A Am : Option Addr} {ca cm : Nat} (hs : IsT w s a M A Am ca cm) (h15 : ∀ x ∈ a, x.f1.length ≤ 15) :
    Calls Try.prog 17 #[.pointer (some ⟨s, 0, none⟩), .pointer (some ⟨s, 0, none⟩)] w fun e w' => e = .returned (.bool true) ∧ Below w.heap.size w w' := by
  have := same_call hs hs h15
  rw [smB_refl] at this
  exact this
set_option maxHeartbeats 8000000 in
set_option maxRecDepth 100000 in
theorem same_law (A0 : Option Addr) (c0 : Nat) (a : List S34) (A1 : Option Addr) (c1 : Nat) (b : List S34) (w : World) (ha : Kd.C k34 w A0 a.length a) (hca : a.length ≤ c0) (hbb : Kd.C k34 w A1 b.length b) (hcb : b.length ≤ c1) :
    Calls Try.prog 6 #[.slice A0 a.length c0, .slice A1 b.length c1] w fun e w' => e = .returned (.bool true) ∧ Below w.heap.size w w' := by
  have HA := Lib.hid ha
  have HCA := Lib.hid hca
  have HBB := Lib.hid hbb
  have HCB := Lib.hid hcb
  have HB := Lib.hid (Below.refl w.heap.size w)
  clear ha hca hbb hcb
  by_cases h0 : (newE a).2 = 0
  · obtain ⟨-, h16, h15⟩ := newE_ok h0
    have HEA := Lib.hid h0
    have H15 := Lib.hid h15
    have H16 := Lib.hid h16
    clear h0 h15 h16
    by_cases h1 : (newE b).2 = 0
    · have HEB := Lib.hid h1
      clear h1
      go_enter Try.func6, Try.ntmps6
      go_upto_region 2 with (first
        | (go_at_call 11; go_loud ((with_reducible refine (new_yes (C_below HA.out HB.out) HCA.out HEA.out).mono ?_); rintro e w1 ⟨s, sA, sAm, sca, scm, rfl, hT, hb⟩; (have HS := Lib.hid hT); (replace HB := Lib.hid (HB.out.trans (hb.mono HB.out.size))); clear hT hb)))
      go_upto_region 3 with (first
        | (go_at_call 11; go_loud ((with_reducible refine (new_yes (C_below HBB.out HB.out) HCB.out HEB.out).mono ?_); rintro e w2 ⟨t, tA, tAm, tca, tcm, rfl, hT, hb⟩; (have HT := Lib.hid hT); (replace HB := Lib.hid (HB.out.trans (hb.mono HB.out.size))); (replace HS := Lib.hid (HS.out.below hb)); clear hT hb)))
      go_wp2_with (first
        | (go_at_call 8; go_loud ((with_reducible refine (classed _).mono ?_); rintro e w7 ⟨rfl, hb⟩; (replace HB := Lib.hid (HB.out.trans (hb.mono HB.out.size))); (replace HS := Lib.hid (HS.out.below hb)); (replace HT := Lib.hid (HT.out.below hb)); clear hb))
        | (go_at_call 13; go_loud ((with_reducible refine (count_nil _).mono ?_); rintro e w8 ⟨rfl, hw⟩; obtain rfl := hw.symm))
        | (go_at_call 16; go_loud (first
            | ((with_reducible refine (fitsN1 _).mono ?_); rintro e w9 ⟨rfl, hb⟩; (replace HB := Lib.hid (HB.out.trans (hb.mono HB.out.size))); (replace HS := Lib.hid (HS.out.below hb)); (replace HT := Lib.hid (HT.out.below hb)); clear hb)
            | ((with_reducible refine (fitsN2 _).mono ?_); rintro e w9 ⟨rfl, hb⟩; (replace HB := Lib.hid (HB.out.trans (hb.mono HB.out.size))); (replace HS := Lib.hid (HS.out.below hb)); (replace HT := Lib.hid (HT.out.below hb)); clear hb)))
        | (go_at_call 17; go_loud (first
            | ((with_reducible refine (same_call HS.out HT.out H15.out).mono ?_); rintro e w10 ⟨rfl, hb⟩; (replace HB := Lib.hid (HB.out.trans (hb.mono HB.out.size))); (replace HS := Lib.hid (HS.out.below hb)); (replace HT := Lib.hid (HT.out.below hb)); clear hb)
            | ((with_reducible refine (same_refl HS.out H15.out).mono ?_); rintro e w11 ⟨rfl, hb⟩; (replace HB := Lib.hid (HB.out.trans (hb.mono HB.out.size))); (replace HS := Lib.hid (HS.out.below hb)); (replace HT := Lib.hid (HT.out.below hb)); clear hb)
            | ((with_reducible refine (same_nil HS.out).mono ?_); rintro e w12 ⟨rfl, hb⟩; (replace HB := Lib.hid (HB.out.trans (hb.mono HB.out.size))); (replace HS := Lib.hid (HS.out.below hb)); (replace HT := Lib.hid (HT.out.below hb)); clear hb)))
        | (go_at_call 18; go_loud ((with_reducible refine (rsame_call A0 A1 c0 c1 a b _ (C_below HA.out HB.out) HCA.out (C_below HBB.out HB.out) HCB.out H16.out H15.out).mono ?_); rintro e w13 ⟨rfl, hb⟩; (replace HB := Lib.hid (HB.out.trans (hb.mono HB.out.size))); (replace HS := Lib.hid (HS.out.below hb)); (replace HT := Lib.hid (HT.out.below hb)); clear hb)))
      go_ret
      exact ⟨by simp, HB.out⟩
    · have HEB := Lib.hid h1
      have gb : ((newE b).2 != 0) = true := bne_iff_ne.2 HEB.out
      clear h1
      go_enter Try.func6, Try.ntmps6
      go_upto_region 2 with (first
        | (go_at_call 11; go_loud ((with_reducible refine (new_yes (C_below HA.out HB.out) HCA.out HEA.out).mono ?_); rintro e w1 ⟨s, sA, sAm, sca, scm, rfl, hT, hb⟩; (have HS := Lib.hid hT); (replace HB := Lib.hid (HB.out.trans (hb.mono HB.out.size))); clear hT hb)))
      go_upto_region 3 with (first
        | (go_at_call 11; go_loud ((with_reducible refine (new_no (C_below HBB.out HB.out) HCB.out HEB.out).mono ?_); rintro e w2 ⟨rfl, hb⟩; (replace HB := Lib.hid (HB.out.trans (hb.mono HB.out.size))); (replace HS := Lib.hid (HS.out.below hb)); clear hb)))
      go_wp2_with (first
        | (go_at_call 8; go_loud ((with_reducible refine (classed _).mono ?_); rintro e w7 ⟨rfl, hb⟩; (replace HB := Lib.hid (HB.out.trans (hb.mono HB.out.size))); (replace HS := Lib.hid (HS.out.below hb)); clear hb))
        | (go_at_call 13; go_loud ((with_reducible refine (count_nil _).mono ?_); rintro e w8 ⟨rfl, hw⟩; obtain rfl := hw.symm))
        | (go_at_call 16; go_loud (first
            | ((with_reducible refine (fitsN1 _).mono ?_); rintro e w9 ⟨rfl, hb⟩; (replace HB := Lib.hid (HB.out.trans (hb.mono HB.out.size))); (replace HS := Lib.hid (HS.out.below hb)); clear hb)
            | ((with_reducible refine (fitsN2 _).mono ?_); rintro e w9 ⟨rfl, hb⟩; (replace HB := Lib.hid (HB.out.trans (hb.mono HB.out.size))); (replace HS := Lib.hid (HS.out.below hb)); clear hb))))
      go_ret
      exact ⟨by first | rfl | simp, HB.out⟩
  · have HEA := Lib.hid h0
    have ga : ((newE a).2 != 0) = true := bne_iff_ne.2 HEA.out
    clear h0
    by_cases h1 : (newE b).2 = 0
    · have HEB := Lib.hid h1
      clear h1
      go_enter Try.func6, Try.ntmps6
      go_upto_region 2 with (first
        | (go_at_call 11; go_loud ((with_reducible refine (new_no (C_below HA.out HB.out) HCA.out HEA.out).mono ?_); rintro e w1 ⟨rfl, hb⟩; (replace HB := Lib.hid (HB.out.trans (hb.mono HB.out.size))); clear hb)))
      go_upto_region 3 with (first
        | (go_at_call 11; go_loud ((with_reducible refine (new_yes (C_below HBB.out HB.out) HCB.out HEB.out).mono ?_); rintro e w2 ⟨t, tA, tAm, tca, tcm, rfl, hT, hb⟩; (have HT := Lib.hid hT); (replace HB := Lib.hid (HB.out.trans (hb.mono HB.out.size))); clear hT hb)))
      go_wp2_with (first
        | (go_at_call 8; go_loud ((with_reducible refine (classed _).mono ?_); rintro e w7 ⟨rfl, hb⟩; (replace HB := Lib.hid (HB.out.trans (hb.mono HB.out.size))); (replace HT := Lib.hid (HT.out.below hb)); clear hb))
        | (go_at_call 13; go_loud ((with_reducible refine (count_nil _).mono ?_); rintro e w8 ⟨rfl, hw⟩; obtain rfl := hw.symm))
        | (go_at_call 16; go_loud (first
            | ((with_reducible refine (fitsN1 _).mono ?_); rintro e w9 ⟨rfl, hb⟩; (replace HB := Lib.hid (HB.out.trans (hb.mono HB.out.size))); (replace HT := Lib.hid (HT.out.below hb)); clear hb)
            | ((with_reducible refine (fitsN2 _).mono ?_); rintro e w9 ⟨rfl, hb⟩; (replace HB := Lib.hid (HB.out.trans (hb.mono HB.out.size))); (replace HT := Lib.hid (HT.out.below hb)); clear hb))))
      go_ret
      exact ⟨by first | rfl | simp, HB.out⟩
    · have HEB := Lib.hid h1
      clear h1
      go_enter Try.func6, Try.ntmps6
      go_upto_region 2 with (first
        | (go_at_call 11; go_loud ((with_reducible refine (new_no (C_below HA.out HB.out) HCA.out HEA.out).mono ?_); rintro e w1 ⟨rfl, hb⟩; (replace HB := Lib.hid (HB.out.trans (hb.mono HB.out.size))); clear hb)))
      go_upto_region 3 with (first
        | (go_at_call 11; go_loud ((with_reducible refine (new_no (C_below HBB.out HB.out) HCB.out HEB.out).mono ?_); rintro e w2 ⟨rfl, hb⟩; (replace HB := Lib.hid (HB.out.trans (hb.mono HB.out.size))); clear hb)))
      go_wp2_with (first
        | (go_at_call 8; go_loud ((with_reducible refine (classed _).mono ?_); rintro e w7 ⟨rfl, hb⟩; (replace HB := Lib.hid (HB.out.trans (hb.mono HB.out.size))); clear hb))
        | (go_at_call 13; go_loud ((with_reducible refine (count_nil _).mono ?_); rintro e w8 ⟨rfl, hw⟩; obtain rfl := hw.symm))
        | (go_at_call 16; go_loud (first
            | ((with_reducible refine (fitsN1 _).mono ?_); rintro e w9 ⟨rfl, hb⟩; (replace HB := Lib.hid (HB.out.trans (hb.mono HB.out.size))); clear hb)
            | ((with_reducible refine (fitsN2 _).mono ?_); rintro e w9 ⟨rfl, hb⟩; (replace HB := Lib.hid (HB.out.trans (hb.mono HB.out.size))); clear hb))))
      go_ret
      exact ⟨by first | rfl | simp, HB.out⟩
end Go.Proofs.Yteankgbcmfkfnaa.Cl

/- classed: true. ClassesNames. -/
import Derived.Test.YteankgbcmfkfnaaTab
namespace Go.Proofs.Yteankgbcmfkfnaa.Cl
open Go Go.RowKit Go.Proofs.Yteankgbcmfkfnaa.Hp Go.Proofs.Yteankgbcmfkfnaa.PH
open Go.Proofs.YteankgbcmfkfnaaW.PrintWords (bt Kd)
set_option linter.unusedVariables false
set_option linter.unusedSimpArgs false

abbrev sNext : ByteArray := { data := #[110, 101, 120, 116] }
abbrev sN : ByteArray := { data := #[110] }
abbrev sNode : ByteArray := { data := #[110, 111, 100, 101] }
abbrev fs0 : List S41 := [⟨sNext, 2⟩, ⟨sN, 1⟩]
abbrev cl0 : List S34 := [⟨sNode, fs0⟩]
theorem new0 : newE cl0 = (0, 0) := by decide +kernel
theorem mask0 : (cl0.map fun x => fieldsM x.f1) = [1] := by decide +kernel
theorem fields_lit {w : World} {g : Nat} (h : w.heap[g]? = some (.cells #[.string sNext, .int .i64 2, .string sN, .int .i64 1] 41 (0, 0))) : Kd.C k41 w (some ⟨g, 0, none⟩) 2 fs0 := by
  refine ⟨rfl, by decide, fun _ => ⟨_, rfl, fun j p hp => ?_⟩⟩
  have c0 := (Hp.blk_cell h 0 rfl).1
  have c1 := (Hp.blk_cell h 1 rfl).1
  have c2 := (Hp.blk_cell h 2 rfl).1
  have c3 := (Hp.blk_cell h 3 rfl).1
  match j, hp with
  | 0, hp =>
    obtain rfl := Option.some.inj hp
    refine ⟨[.string sNext, .int .i64 2], rfl, ⟨[.string sNext], [.int .i64 2], rfl, rfl, rfl⟩, fun i u hu => ?_⟩
    match i, hu with
    | 0, hu => obtain rfl := Option.some.inj hu; exact c0
    | 1, hu => obtain rfl := Option.some.inj hu; exact c1
  | 1, hp =>
    obtain rfl := Option.some.inj hp
    refine ⟨[.string sN, .int .i64 1], rfl, ⟨[.string sN], [.int .i64 1], rfl, rfl, rfl⟩, fun i u hu => ?_⟩
    match i, hu with
    | 0, hu => obtain rfl := Option.some.inj hu; exact c2
    | 1, hu => obtain rfl := Option.some.inj hu; exact c3
theorem class_lit {w : World} {g g2 : Nat} (h : w.heap[g]? = some (.cells #[.string sNext, .int .i64 2, .string sN, .int .i64 1] 41 (0, 0))) (h2 : w.heap[g2]? = some (.cells #[.string sNode, .slice (some ⟨g, 0, none⟩) 2 2] 34 (0, 0))) : Kd.C k34 w (some ⟨g2, 0, none⟩) 1 cl0 := by
  refine ⟨rfl, by decide, fun _ => ⟨_, rfl, fun j p hp => ?_⟩⟩
  have c0 := (Hp.blk_cell h2 0 rfl).1
  have c1 := (Hp.blk_cell h2 1 rfl).1
  match j, hp with
  | 0, hp =>
    obtain rfl := Option.some.inj hp
    refine ⟨[.string sNode, .slice (some ⟨g, 0, none⟩) 2 2], rfl, ⟨[.string sNode], [.slice (some ⟨g, 0, none⟩) 2 2], rfl, rfl, _, _, rfl, Nat.le_refl _, fields_lit h⟩, fun i u hu => ?_⟩
    match i, hu with
    | 0, hu => obtain rfl := Option.some.inj hu; exact c0
    | 1, hu => obtain rfl := Option.some.inj hu; exact c1
theorem new_lit {w : World} {g2 : Nat} (hC : Kd.C k34 w (some ⟨g2, 0, none⟩) 1 cl0) :
    Calls Try.prog 11 #[.slice (some ⟨g2, 0, none⟩) 1 1] w fun e w' => ∃ t A Am ca cm, e = .returned (.tuple #[.pointer (some ⟨t, 0, none⟩), .int .i64 0, .int .i64 0]) ∧ IsT w' t cl0 [1] A Am ca cm ∧ Below w.heap.size w w' := by
  have hm : Calls Try.prog 11 #[.slice (some ⟨g2, 0, none⟩) 1 1] w _ := new_call (some ⟨g2, 0, none⟩) 1 cl0 w hC (Nat.le_refl _)
  refine hm.mono ?_
  rintro e w' ⟨hb, ⟨h1, _⟩ | ⟨_, t, vl, vm, rfl, hT⟩⟩
  · exact absurd (by rw [new0]) h1
  · rw [mask0] at hT
    obtain ⟨A, Am, ca, cm, h⟩ := hT.reads rfl (by decide)
    exact ⟨t, A, Am, ca, cm, rfl, h, hb⟩
theorem name_call (s : ByteArray) (w : World) : Calls Try.prog 10 #[.string s] w fun e w' => e = .returned (.bool (nm s)) ∧ Below w.heap.size w w' :=
  (windrowref10_Name.calls 30 s (nm s) w (name_eq s)).mono fun e w' hw => ⟨hw.1, by obtain ⟨nd, h2⟩ := hw.2; exact below_drewN ⟨nd, h2⟩⟩
theorem w012 : header_Head_Words.f 10 ((0 : Nat) : Int) 1 ((2 : Nat) : Int) = some 3 := by decide +kernel
theorem isRef_a {w : World} {t : Nat} {A Am : Option Addr} {ca cm : Nat} (h : IsT w t cl0 [1] A Am ca cm) :
    Calls Try.prog 26 #[.pointer (some ⟨t, 0, none⟩), .agg #[.int .i64 0, .int .i64 1, .int .i64 2], .int .i64 0] w fun e w' => e = .returned (.bool true) ∧ Below w.heap.size w w' :=
  isRef1_0 h 0 2 (by decide) rfl 3 w012 (by decide) (by decide) rfl
theorem isRef_b {w : World} {t : Nat} {A Am : Option Addr} {ca cm : Nat} (h : IsT w t cl0 [1] A Am ca cm) :
    Calls Try.prog 26 #[.pointer (some ⟨t, 0, none⟩), .agg #[.int .i64 0, .int .i64 1, .int .i64 2], .int .i64 1] w fun e w' => e = .returned (.bool false) ∧ Below w.heap.size w w' :=
  isRef1_1 h 0 2 (by decide) rfl 3 w012 (by decide) (by decide) rfl
set_option maxHeartbeats 4000000 in
set_option maxRecDepth 100000 in
theorem classed (w : World) : Calls Try.prog 8 #[] w fun e w' => e = .returned (.bool true) ∧ Below w.heap.size w w' := by
  have h1 := Hp.blk_alloc (Hp.blk_new w (.cells #[.string sNext, .int .i64 2, .string sN, .int .i64 1] 41)) (.cells #[.string sNode, .slice (some ⟨w.heap.size, 0, none⟩) 2 2] 34)
  have h2 : ((w.alloc (.cells #[.string sNext, .int .i64 2, .string sN, .int .i64 1] 41)).alloc (.cells #[.string sNode, .slice (some ⟨w.heap.size, 0, none⟩) 2 2] 34)).heap[w.heap.size + 1]? = some (.cells #[.string sNode, .slice (some ⟨w.heap.size, 0, none⟩) 2 2] 34 (0, 0)) := by
    have := Hp.blk_new (w.alloc (.cells #[.string sNext, .int .i64 2, .string sN, .int .i64 1] 41)) (.cells #[.string sNode, .slice (some ⟨w.heap.size, 0, none⟩) 2 2] 34)
    simpa using this
  have hC := class_lit h1 h2
  have HC := Lib.hid hC
  have HB := Lib.hid (((Below.refl _ w).alloc (Nat.le_refl _) (.cells #[.string sNext, .int .i64 2, .string sN, .int .i64 1] 41)).alloc (by simp) (.cells #[.string sNode, .slice (some ⟨w.heap.size, 0, none⟩) 2 2] 34))
  clear h1 h2 hC
  go_enter Try.func8, Try.ntmps8
  go_upto_region 4 with (first
    | (go_at_call 11; ((with_reducible refine (new_lit HC.out).mono ?_); rintro e w2 ⟨t, A, Am, ca, cm, rfl, hT, hb⟩; (have HT := Lib.hid hT); replace HB := Lib.hid (HB.out.trans (hb.mono HB.out.size)); clear hT hb HC)))
  go_upto_region 5 with (first
    | (go_at_call 25; ((have hm : Calls Try.prog 25 #[.pointer (some ⟨t, 0, none⟩), .int .i64 0] w2 fun e w' => e = .returned (.tuple #[.agg #[.int .i64 0, .int .i64 1, .int .i64 2], .int .i64 0]) ∧ Below w2.heap.size w2 w' := head_yes HT.out 0 (by decide)); (with_reducible refine hm.mono ?_); clear hm; rintro e w3 ⟨rfl, hb⟩; replace HT := Lib.hid (HT.out.below hb); replace HB := Lib.hid (HB.out.trans (hb.mono HB.out.size)); clear hb)))
  have KH := Lib.hid (Hp.blk_new w3 (.cells #[.int .i64 0, .int .i64 1, .int .i64 2] 45))
  have hb0 : Below w3.heap.size w3 (w3.alloc (.cells #[.int .i64 0, .int .i64 1, .int .i64 2] 45)) := (Below.refl _ w3).alloc (Nat.le_refl _) _
  replace HT := Lib.hid (HT.out.below hb0)
  replace HB := Lib.hid (HB.out.trans (hb0.mono HB.out.size))
  clear hb0
  generalize w3.alloc (.cells #[.int .i64 0, .int .i64 1, .int .i64 2] 45) = w4 at KH HT HB ⊢
  obtain ⟨q0, -⟩ := Hp.blk_cell KH.out 0 rfl
  obtain ⟨q1, -⟩ := Hp.blk_cell KH.out 1 rfl
  obtain ⟨q2, -⟩ := Hp.blk_cell KH.out 2 rfl
  go_wp2_with (first
    | (go_at_call 26; (first
        | ((with_reducible refine (isRef_a HT.out).mono ?_); rintro e w5 ⟨rfl, hb⟩; (clear q0 q1 q2; replace KH := Lib.hid ((hb.block _ (blk_lt KH.out)).trans KH.out); replace HT := Lib.hid (HT.out.below hb); replace HB := Lib.hid (HB.out.trans (hb.mono HB.out.size)); clear hb; (obtain ⟨q0, -⟩ := Hp.blk_cell KH.out 0 rfl); (obtain ⟨q1, -⟩ := Hp.blk_cell KH.out 1 rfl); (obtain ⟨q2, -⟩ := Hp.blk_cell KH.out 2 rfl)))
        | ((with_reducible refine (isRef_b HT.out).mono ?_); rintro e w5 ⟨rfl, hb⟩; (clear q0 q1 q2; replace KH := Lib.hid ((hb.block _ (blk_lt KH.out)).trans KH.out); replace HT := Lib.hid (HT.out.below hb); replace HB := Lib.hid (HB.out.trans (hb.mono HB.out.size)); clear hb; (obtain ⟨q0, -⟩ := Hp.blk_cell KH.out 0 rfl); (obtain ⟨q1, -⟩ := Hp.blk_cell KH.out 1 rfl); (obtain ⟨q2, -⟩ := Hp.blk_cell KH.out 2 rfl)))
        | ((with_reducible refine (isRef3 HT.out).mono ?_); rintro e w5 ⟨rfl, hb⟩; (clear q0 q1 q2; replace KH := Lib.hid ((hb.block _ (blk_lt KH.out)).trans KH.out); replace HT := Lib.hid (HT.out.below hb); replace HB := Lib.hid (HB.out.trans (hb.mono HB.out.size)); clear hb; (obtain ⟨q0, -⟩ := Hp.blk_cell KH.out 0 rfl); (obtain ⟨q1, -⟩ := Hp.blk_cell KH.out 1 rfl); (obtain ⟨q2, -⟩ := Hp.blk_cell KH.out 2 rfl)))))
    | (go_at_call 13; ((have hm : Calls Try.prog 13 #[.pointer (some ⟨t, 0, none⟩)] w5 fun e w' => e = .returned (.int .i64 1) ∧ w' = w5 := count_call HT.out); (with_reducible refine hm.mono ?_); clear hm; rintro e w6 ⟨rfl, hw⟩; obtain rfl := hw.symm)))
  go_ret
  exact ⟨by first | rfl | trivial, HB.out⟩
set_option maxRecDepth 100000 in
theorem names_law (s : ByteArray) (w : World) : Calls Try.prog 3 #[.string s] w fun e w' => e = .returned (.bool true) ∧ Below w.heap.size w w' := by
  have HB := Lib.hid (Below.refl w.heap.size w)
  go_enter Try.func3, Try.ntmps3
  go_wp2_with (first
    | (go_at_call 8; ((with_reducible refine (classed _).mono ?_); rintro e w2 ⟨rfl, hb⟩; replace HB := Lib.hid (HB.out.trans (hb.mono HB.out.size)); clear hb))
    | (go_at_call 9; ((with_reducible refine (isName_call s _).mono ?_); rintro e w3 ⟨rfl, hb⟩; replace HB := Lib.hid (HB.out.trans (hb.mono HB.out.size)); clear hb))
    | (go_at_call 10; ((with_reducible refine (name_call s _).mono ?_); rintro e w3 ⟨rfl, hb⟩; replace HB := Lib.hid (HB.out.trans (hb.mono HB.out.size)); clear hb)))
  go_ret
  exact ⟨by simp, HB.out⟩
end Go.Proofs.Yteankgbcmfkfnaa.Cl

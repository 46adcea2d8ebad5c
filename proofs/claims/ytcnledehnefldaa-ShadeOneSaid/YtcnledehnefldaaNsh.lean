/- What makes a shade; is an object's mark set? -/
import Derived.Test.YtcnledehnefldaaShd
namespace Go.Proofs.Ytcnledehnefldaa.Ar
open Go Go.RowKit Go.Proofs.Ytcnledehnefldaa.Hp Go.Proofs.Ytcnledehnefldaa.PH
set_option linter.unusedVariables false
set_option linter.unusedSimpArgs false

set_option maxHeartbeats 2000000 in
set_option maxRecDepth 100000 in
theorem newShade_plan (w : World) (P T R t : Int) (ref : Int) (q0 : Int) (hst : layout_Plan_Status.f P T R t = some q0) (h0 : q0 < 0) :
    Calls Try.prog 12 #[.agg #[.int .i64 P, .int .i64 T, .int .i64 R], .int .i64 t, .int .u64 ref] w fun e w' => e = .returned (.tuple #[.pointer none, .int .i64 1]) ∧ Below w.heap.size w w' := by
  have HSt := Lib.hid hst
  have e1 : decide (q0 < 0) = true := decide_eq_true h0
  clear hst h0
  have KB := Lib.hid (Hp.blk_new w (.cells #[.int .i64 P, .int .i64 T, .int .i64 R] 34))
  have HB := Lib.hid ((Below.refl w.heap.size w).alloc (Nat.le_refl _) (.cells #[.int .i64 P, .int .i64 T, .int .i64 R] 34))
  (obtain ⟨c0, -⟩ := Hp.blk_cell KB.out 0 rfl)
  (obtain ⟨c1, -⟩ := Hp.blk_cell KB.out 1 rfl)
  (obtain ⟨c2, -⟩ := Hp.blk_cell KB.out 2 rfl)
  go_enter Try.func12, Try.ntmps12
  go_wp2_with (first | (go_at_call 45; ((with_reducible refine (layout_Plan_Status.calls P T R t q0 _ HSt.out).mono ?_); rintro e w2 ⟨rfl, hb⟩; clear c0 c1 c2; replace KB := Lib.hid (blk_below KB.out hb); replace HB := Lib.hid (HB.out.trans (hb.mono HB.out.size)); (obtain ⟨c0, -⟩ := Hp.blk_cell KB.out 0 rfl); (obtain ⟨c1, -⟩ := Hp.blk_cell KB.out 1 rfl); (obtain ⟨c2, -⟩ := Hp.blk_cell KB.out 2 rfl); clear hb)))
  go_ret2
  exact ⟨rfl, HB.out⟩

set_option maxHeartbeats 2000000 in
set_option maxRecDepth 100000 in
theorem newShade_addr (w : World) (P T R t : Int) (ref : Int) (q0 : Int) (hst : layout_Plan_Status.f P T R t = some q0) (h0 : 0 ≤ q0) (b : Int) (hb : layout_Plan_Base.f P T R = some b) (hb0 : 0 ≤ b) (hr : ref ≠ 0) (hf : layout_Plan_Ref.f P T R ref = some false) :
    Calls Try.prog 12 #[.agg #[.int .i64 P, .int .i64 T, .int .i64 R], .int .i64 t, .int .u64 ref] w fun e w' => e = .returned (.tuple #[.pointer none, .int .i64 5]) ∧ Below w.heap.size w w' := by
  have HSt := Lib.hid hst
  have e1 : decide (q0 < 0) = false := decide_eq_false (by omega)
  have HNM := fun w => newMark_addr w P T R ref b hb hb0 hr hf
  clear hst h0 hb hb0 hr hf
  have KB := Lib.hid (Hp.blk_new w (.cells #[.int .i64 P, .int .i64 T, .int .i64 R] 34))
  have HB := Lib.hid ((Below.refl w.heap.size w).alloc (Nat.le_refl _) (.cells #[.int .i64 P, .int .i64 T, .int .i64 R] 34))
  (obtain ⟨c0, -⟩ := Hp.blk_cell KB.out 0 rfl)
  (obtain ⟨c1, -⟩ := Hp.blk_cell KB.out 1 rfl)
  (obtain ⟨c2, -⟩ := Hp.blk_cell KB.out 2 rfl)
  go_enter Try.func12, Try.ntmps12
  go_wp2_with (first
    | (go_at_call 45; ((with_reducible refine (layout_Plan_Status.calls P T R t q0 _ HSt.out).mono ?_); rintro e w2 ⟨rfl, hb⟩; clear c0 c1 c2; replace KB := Lib.hid (blk_below KB.out hb); replace HB := Lib.hid (HB.out.trans (hb.mono HB.out.size)); (obtain ⟨c0, -⟩ := Hp.blk_cell KB.out 0 rfl); (obtain ⟨c1, -⟩ := Hp.blk_cell KB.out 1 rfl); (obtain ⟨c2, -⟩ := Hp.blk_cell KB.out 2 rfl); clear hb))
    | (go_at_call 10; ((with_reducible refine (HNM _).mono ?_); rintro e w3 ⟨rfl, hb⟩; clear c0 c1 c2; replace KB := Lib.hid (blk_below KB.out hb); replace HB := Lib.hid (HB.out.trans (hb.mono HB.out.size)); (obtain ⟨c0, -⟩ := Hp.blk_cell KB.out 0 rfl); (obtain ⟨c1, -⟩ := Hp.blk_cell KB.out 1 rfl); (obtain ⟨c2, -⟩ := Hp.blk_cell KB.out 2 rfl); clear hb)))
  go_ret2
  exact ⟨rfl, HB.out⟩

set_option maxHeartbeats 2000000 in
set_option maxRecDepth 100000 in
theorem newShade_zero (w : World) (P T R t : Int) (q0 : Int) (hst : layout_Plan_Status.f P T R t = some q0) (h0 : 0 ≤ q0) (b : Int) (hb : layout_Plan_Base.f P T R = some b) (hb0 : 0 ≤ b) :
    Calls Try.prog 12 #[.agg #[.int .i64 P, .int .i64 T, .int .i64 R], .int .i64 t, .int .u64 0] w fun e w' => ∃ m mk, e = .returned (.tuple #[.pointer (some ⟨m, 0, none⟩), .int .i64 0]) ∧ w.heap.size ≤ m ∧ w.heap.size ≤ mk ∧ ShB w' m mk none 3 false ∧ IsMark w' mk ⟨P, T, R, 0, true, false⟩ ∧ Below w.heap.size w w' := by
  have HSt := Lib.hid hst
  have e1 : decide (q0 < 0) = false := decide_eq_false (by omega)
  have HNM := fun w => newMark_zero w P T R 0 b hb hb0 rfl
  clear hst h0 hb hb0
  have KB := Lib.hid (Hp.blk_new w (.cells #[.int .i64 P, .int .i64 T, .int .i64 R] 34))
  have HB := Lib.hid ((Below.refl w.heap.size w).alloc (Nat.le_refl _) (.cells #[.int .i64 P, .int .i64 T, .int .i64 R] 34))
  (obtain ⟨c0, -⟩ := Hp.blk_cell KB.out 0 rfl)
  (obtain ⟨c1, -⟩ := Hp.blk_cell KB.out 1 rfl)
  (obtain ⟨c2, -⟩ := Hp.blk_cell KB.out 2 rfl)
  go_enter Try.func12, Try.ntmps12
  go_upto_region 7 with (first
    | (go_at_call 45; ((with_reducible refine (layout_Plan_Status.calls P T R t q0 _ HSt.out).mono ?_); rintro e w2 ⟨rfl, hb⟩; clear c0 c1 c2; replace KB := Lib.hid (blk_below KB.out hb); replace HB := Lib.hid (HB.out.trans (hb.mono HB.out.size)); (obtain ⟨c0, -⟩ := Hp.blk_cell KB.out 0 rfl); (obtain ⟨c1, -⟩ := Hp.blk_cell KB.out 1 rfl); (obtain ⟨c2, -⟩ := Hp.blk_cell KB.out 2 rfl); clear hb))
    | (go_at_call 10; ((with_reducible refine (HNM _).mono ?_); rintro e w3 ⟨mk, rfl, hlt, hM, hb⟩; (have HM := Lib.hid hM); (have HL := Lib.hid (Nat.le_trans HB.out.size hlt)); clear c0 c1 c2; replace KB := Lib.hid (blk_below KB.out hb); replace HB := Lib.hid (HB.out.trans (hb.mono HB.out.size)); (obtain ⟨c0, -⟩ := Hp.blk_cell KB.out 0 rfl); (obtain ⟨c1, -⟩ := Hp.blk_cell KB.out 1 rfl); (obtain ⟨c2, -⟩ := Hp.blk_cell KB.out 2 rfl); clear hb hM hlt)))
  have KS : Hid ((w3.alloc (.cells #[.pointer (some ⟨mk, 0, none⟩), .pointer none, .int .i64 0, .bool false] 98)).heap[w3.heap.size]? = some (.cells #[.pointer (some ⟨mk, 0, none⟩), .pointer none, .int .i64 0, .bool false] 98 (0, 0))) := Lib.hid (Hp.blk_new w3 _)
  have HLs := Lib.hid HB.out.size
  replace HM := Lib.hid (HM.out.below ((Below.refl w3.heap.size w3).alloc (Nat.le_refl _) (.cells #[.pointer (some ⟨mk, 0, none⟩), .pointer none, .int .i64 0, .bool false] 98)))
  replace KB := Lib.hid (blk_below KB.out ((Below.refl w3.heap.size w3).alloc (Nat.le_refl _) (.cells #[.pointer (some ⟨mk, 0, none⟩), .pointer none, .int .i64 0, .bool false] 98)))
  replace HB := Lib.hid (HB.out.alloc HB.out.size (.cells #[.pointer (some ⟨mk, 0, none⟩), .pointer none, .int .i64 0, .bool false] 98))
  clear c0 c1 c2
  generalize w3.heap.size = m at KS HLs ⊢
  generalize w3.alloc (.cells #[.pointer (some ⟨mk, 0, none⟩), .pointer none, .int .i64 0, .bool false] 98) = w4 at KS HM KB HB ⊢
  (obtain ⟨c0, -⟩ := Hp.blk_cell KB.out 0 rfl)
  (obtain ⟨c1, -⟩ := Hp.blk_cell KB.out 1 rfl)
  (obtain ⟨c2, -⟩ := Hp.blk_cell KB.out 2 rfl)
  obtain ⟨d2, f2⟩ := Hp.blk_cell KS.out 2 rfl
  have HNE := Lib.hid (blk_ne KS.out HM.out (by decide))
  go_wp2_with (fail)
  go_ret2
  exact ⟨m, mk, rfl, HLs.out, HL.out, Hp.blk_set KS.out 2 _, ((Fr.refl (fun k => k = m) w4).setCell ⟨m, 2, none⟩ (.int .i64 3) (.inl rfl)).blk HM.out (fun e => HNE.out e.symm), HB.out.setCell (p := ⟨m, 2, none⟩) HLs.out _⟩

set_option maxHeartbeats 2000000 in
set_option maxRecDepth 100000 in
theorem newShade_yes (w : World) (P T R t : Int) (ref : Int) (q0 : Int) (hst : layout_Plan_Status.f P T R t = some q0) (h0 : 0 ≤ q0) (b : Int) (hb : layout_Plan_Base.f P T R = some b) (hb0 : 0 ≤ b) (hr : ref ≠ 0) (hf : layout_Plan_Ref.f P T R ref = some true) (hg : ring_right.f P T R t = some true) :
    Calls Try.prog 12 #[.agg #[.int .i64 P, .int .i64 T, .int .i64 R], .int .i64 t, .int .u64 ref] w fun e w' => ∃ m mk pu, e = .returned (.tuple #[.pointer (some ⟨m, 0, none⟩), .int .i64 0]) ∧ (w.heap.size ≤ m ∧ w.heap.size ≤ mk ∧ w.heap.size ≤ pu) ∧ IsShade w' m mk pu ⟨P, T, R, t, ref, 0, false, false, false, 0, 0, 0, false⟩ ∧ Below w.heap.size w w' := by
  have HSt := Lib.hid hst
  have e1 : decide (q0 < 0) = false := decide_eq_false (by omega)
  have e2 : (ref == 0) = false := by simp [hr]
  have HNM := fun w => newMark_yes w P T R ref b hb hb0 hr hf
  have HNP := fun w => newPush_yes w P T R t ref hg hr
  clear hst h0 hb hb0 hr hf hg
  have KB := Lib.hid (Hp.blk_new w (.cells #[.int .i64 P, .int .i64 T, .int .i64 R] 34))
  have HB := Lib.hid ((Below.refl w.heap.size w).alloc (Nat.le_refl _) (.cells #[.int .i64 P, .int .i64 T, .int .i64 R] 34))
  (obtain ⟨c0, -⟩ := Hp.blk_cell KB.out 0 rfl)
  (obtain ⟨c1, -⟩ := Hp.blk_cell KB.out 1 rfl)
  (obtain ⟨c2, -⟩ := Hp.blk_cell KB.out 2 rfl)
  go_enter Try.func12, Try.ntmps12
  go_upto_region 7 with (first
    | (go_at_call 45; ((with_reducible refine (layout_Plan_Status.calls P T R t q0 _ HSt.out).mono ?_); rintro e w2 ⟨rfl, hb⟩; clear c0 c1 c2; replace KB := Lib.hid (blk_below KB.out hb); replace HB := Lib.hid (HB.out.trans (hb.mono HB.out.size)); (obtain ⟨c0, -⟩ := Hp.blk_cell KB.out 0 rfl); (obtain ⟨c1, -⟩ := Hp.blk_cell KB.out 1 rfl); (obtain ⟨c2, -⟩ := Hp.blk_cell KB.out 2 rfl); clear hb))
    | (go_at_call 10; ((with_reducible refine (HNM _).mono ?_); rintro e w3 ⟨mk, rfl, hlt, hM, hb⟩; (have HM := Lib.hid hM); (have HL := Lib.hid (Nat.le_trans HB.out.size hlt)); clear c0 c1 c2; replace KB := Lib.hid (blk_below KB.out hb); replace HB := Lib.hid (HB.out.trans (hb.mono HB.out.size)); (obtain ⟨c0, -⟩ := Hp.blk_cell KB.out 0 rfl); (obtain ⟨c1, -⟩ := Hp.blk_cell KB.out 1 rfl); (obtain ⟨c2, -⟩ := Hp.blk_cell KB.out 2 rfl); clear hb hM hlt)))
  have KS : Hid ((w3.alloc (.cells #[.pointer (some ⟨mk, 0, none⟩), .pointer none, .int .i64 0, .bool false] 98)).heap[w3.heap.size]? = some (.cells #[.pointer (some ⟨mk, 0, none⟩), .pointer none, .int .i64 0, .bool false] 98 (0, 0))) := Lib.hid (Hp.blk_new w3 _)
  have HLs := Lib.hid HB.out.size
  replace HM := Lib.hid (HM.out.below ((Below.refl w3.heap.size w3).alloc (Nat.le_refl _) (.cells #[.pointer (some ⟨mk, 0, none⟩), .pointer none, .int .i64 0, .bool false] 98)))
  replace KB := Lib.hid (blk_below KB.out ((Below.refl w3.heap.size w3).alloc (Nat.le_refl _) (.cells #[.pointer (some ⟨mk, 0, none⟩), .pointer none, .int .i64 0, .bool false] 98)))
  replace HB := Lib.hid (HB.out.alloc HB.out.size (.cells #[.pointer (some ⟨mk, 0, none⟩), .pointer none, .int .i64 0, .bool false] 98))
  clear c0 c1 c2
  generalize w3.heap.size = m at KS HLs ⊢
  generalize w3.alloc (.cells #[.pointer (some ⟨mk, 0, none⟩), .pointer none, .int .i64 0, .bool false] 98) = w4 at KS HM KB HB ⊢
  (obtain ⟨c0, -⟩ := Hp.blk_cell KB.out 0 rfl)
  (obtain ⟨c1, -⟩ := Hp.blk_cell KB.out 1 rfl)
  (obtain ⟨c2, -⟩ := Hp.blk_cell KB.out 2 rfl)
  go_upto_region 11 with (first
    | (go_at_call 46; ((with_reducible refine (HNP _).mono ?_); rintro e w5 ⟨pu, rfl, hlp, hP, hb⟩; (have HP := Lib.hid hP); (have HLp := Lib.hid (Nat.le_trans HB.out.size hlp)); replace KS := Lib.hid (blk_below KS.out hb); replace HM := Lib.hid (HM.out.below hb); replace HB := Lib.hid (HB.out.trans (hb.mono HB.out.size)); clear c0 c1 c2 hb hlp hP KB; (obtain ⟨d1, f1⟩ := Hp.blk_cell KS.out 1 rfl))))
  have HNE := Lib.hid (blk_ne KS.out HM.out (by decide))
  have HNQ := Lib.hid (blk_ne KS.out HP.out (by decide))
  go_wp2_with (fail)
  go_ret2
  have fr2 := (Fr.refl (fun k => k = m) w5).setCell ⟨m, 1, none⟩ (.pointer (some ⟨pu, 0, none⟩)) (.inl rfl)
  exact ⟨m, mk, pu, rfl, ⟨HLs.out, HL.out, HLp.out⟩, ⟨Hp.blk_set KS.out 1 _, fr2.blk HM.out (fun e => HNE.out e.symm), fr2.blk HP.out (fun e => HNQ.out e.symm)⟩, HB.out.setCell (p := ⟨m, 1, none⟩) HLs.out _⟩

/-- Is the bit one of the word's? -/
abbrev bitSet (x b : Int) : Bool := Go.bits .and .u64 (x / 2 ^ min b.toNat 64) 1 == 1
set_option maxHeartbeats 2000000 in
set_option maxRecDepth 100000 in
theorem marked_no (w : World) (a : Value) (P T R ref : Int) (hf : layout_Plan_Ref.f P T R ref = some false) :
    Calls Try.prog 22 #[a, .agg #[.int .i64 P, .int .i64 T, .int .i64 R], .int .u64 ref] w fun e w' => e = .returned (.bool false) ∧ Below w.heap.size w w' := by
  have HRf := Lib.hid hf
  clear hf
  have KB := Lib.hid (Hp.blk_new w (.cells #[.int .i64 P, .int .i64 T, .int .i64 R] 34))
  have HB := Lib.hid ((Below.refl w.heap.size w).alloc (Nat.le_refl _) (.cells #[.int .i64 P, .int .i64 T, .int .i64 R] 34))
  (obtain ⟨c0, -⟩ := Hp.blk_cell KB.out 0 rfl)
  (obtain ⟨c1, -⟩ := Hp.blk_cell KB.out 1 rfl)
  (obtain ⟨c2, -⟩ := Hp.blk_cell KB.out 2 rfl)
  go_enter Try.func22, Try.ntmps22
  go_wp2_with (first
    | (go_at_call 44; ((with_reducible refine (layout_Plan_Ref.calls P T R ref false _ HRf.out).mono ?_); rintro e w2 ⟨rfl, hb⟩; clear c0 c1 c2; replace KB := Lib.hid (blk_below KB.out hb); replace HB := Lib.hid (HB.out.trans (hb.mono HB.out.size)); (obtain ⟨c0, -⟩ := Hp.blk_cell KB.out 0 rfl); (obtain ⟨c1, -⟩ := Hp.blk_cell KB.out 1 rfl); (obtain ⟨c2, -⟩ := Hp.blk_cell KB.out 2 rfl); clear hb)))
  go_ret
  exact ⟨rfl, HB.out⟩

theorem below_dn {B : Nat} {w : World} (n : Nat) (h : B ≤ w.heap.size) : Below B w (w.drewN n) := (((Fr.refl (fun _ => False) w).drewN n) |> below_fr).mono h

set_option maxHeartbeats 2000000 in
set_option maxRecDepth 100000 in
theorem marked_nil (w : World) (P T R ref : Int) (hf : layout_Plan_Ref.f P T R ref = some true) (pg b q : Int) (hp : layout_Plan_Place.f P T R (wrap64 ref) = some (pg, b)) (hb0 : 0 ≤ b) (hq : layout_Plan_Mark.f P T R pg = some q) :
    Calls Try.prog 22 #[.pointer none, .agg #[.int .i64 P, .int .i64 T, .int .i64 R], .int .u64 ref] w fun e w' => e = .returned (.bool false) ∧ Below w.heap.size w w' := by
  have HRf := Lib.hid hf
  have HPl := Lib.hid hp
  have HQ := Lib.hid hq
  clear hf hp hq
  have KB := Lib.hid (Hp.blk_new w (.cells #[.int .i64 P, .int .i64 T, .int .i64 R] 34))
  have HB := Lib.hid ((Below.refl w.heap.size w).alloc (Nat.le_refl _) (.cells #[.int .i64 P, .int .i64 T, .int .i64 R] 34))
  (obtain ⟨c0, -⟩ := Hp.blk_cell KB.out 0 rfl)
  (obtain ⟨c1, -⟩ := Hp.blk_cell KB.out 1 rfl)
  (obtain ⟨c2, -⟩ := Hp.blk_cell KB.out 2 rfl)
  go_enter Try.func22, Try.ntmps22
  go_wp2_with (first
    | (go_at_call 44; ((with_reducible refine (layout_Plan_Ref.calls P T R ref true _ HRf.out).mono ?_); rintro e w2 ⟨rfl, hb⟩; clear c0 c1 c2; replace KB := Lib.hid (blk_below KB.out hb); replace HB := Lib.hid (HB.out.trans (hb.mono HB.out.size)); (obtain ⟨c0, -⟩ := Hp.blk_cell KB.out 0 rfl); (obtain ⟨c1, -⟩ := Hp.blk_cell KB.out 1 rfl); (obtain ⟨c2, -⟩ := Hp.blk_cell KB.out 2 rfl); clear hb))
    | (go_at_call 48; ((with_reducible refine (layout_Plan_Place.calls P T R (wrap64 ref) pg b _ HPl.out).mono ?_); rintro e w3 ⟨rfl, hb⟩; clear c0 c1 c2; replace KB := Lib.hid (blk_below KB.out hb); replace HB := Lib.hid (HB.out.trans (hb.mono HB.out.size)); (obtain ⟨c0, -⟩ := Hp.blk_cell KB.out 0 rfl); (obtain ⟨c1, -⟩ := Hp.blk_cell KB.out 1 rfl); (obtain ⟨c2, -⟩ := Hp.blk_cell KB.out 2 rfl); clear hb))
    | (go_at_call 50; ((with_reducible refine (layout_Plan_Mark.calls P T R pg q _ HQ.out).mono ?_); rintro e w4 ⟨rfl, hb⟩; clear c0 c1 c2; replace KB := Lib.hid (blk_below KB.out hb); replace HB := Lib.hid (HB.out.trans (hb.mono HB.out.size)); (obtain ⟨c0, -⟩ := Hp.blk_cell KB.out 0 rfl); (obtain ⟨c1, -⟩ := Hp.blk_cell KB.out 1 rfl); (obtain ⟨c2, -⟩ := Hp.blk_cell KB.out 2 rfl); clear hb))
    | (go_at_call 54; ((with_reducible refine (mPeek_nil _ q).mono ?_); rintro e w5 ⟨rfl, n, rfl⟩; replace HB := Lib.hid (HB.out.trans (below_dn n HB.out.size)); clear c0 c1 c2 KB)))
  go_ret
  exact ⟨rfl, HB.out⟩

set_option maxHeartbeats 2000000 in
set_option maxRecDepth 100000 in
theorem marked_sys (w : World) {B : Nat} {a c : Nat} {s : AS} {ps : List (Nat × Int × Bool)} (hs : Sys B w a c s ps) (P T R ref : Int) (hf : layout_Plan_Ref.f P T R ref = some true) (pg b q : Int) (hp : layout_Plan_Place.f P T R (wrap64 ref) = some (pg, b)) (hb0 : 0 ≤ b) (hq : layout_Plan_Mark.f P T R pg = some q) (hh : s.has q = true) :
    Calls Try.prog 22 #[.pointer (some ⟨a, 0, none⟩), .agg #[.int .i64 P, .int .i64 T, .int .i64 R], .int .u64 ref] w fun e w' => e = .returned (.bool (bitSet (s.cells.getD q.toNat 0) b)) ∧ Below w.heap.size w w' := by
  have HRf := Lib.hid hf
  have HPl := Lib.hid hp
  have HQ := Lib.hid hq
  have HS := Lib.hid (hs.below ((Below.refl w.heap.size w).alloc (Nat.le_refl _) (.cells #[.int .i64 P, .int .i64 T, .int .i64 R] 34)))
  have HH := Lib.hid hh
  obtain ⟨x, hx⟩ : ∃ x, x = s.cells.getD q.toNat 0 := ⟨_, rfl⟩
  have HX := Lib.hid hx
  rw [← hx]
  clear hf hp hq hs hh hx
  have KB := Lib.hid (Hp.blk_new w (.cells #[.int .i64 P, .int .i64 T, .int .i64 R] 34))
  have HB := Lib.hid ((Below.refl w.heap.size w).alloc (Nat.le_refl _) (.cells #[.int .i64 P, .int .i64 T, .int .i64 R] 34))
  (obtain ⟨c0, -⟩ := Hp.blk_cell KB.out 0 rfl)
  (obtain ⟨c1, -⟩ := Hp.blk_cell KB.out 1 rfl)
  (obtain ⟨c2, -⟩ := Hp.blk_cell KB.out 2 rfl)
  go_enter Try.func22, Try.ntmps22
  go_wp2_with (first
    | (go_at_call 44; ((with_reducible refine (layout_Plan_Ref.calls P T R ref true _ HRf.out).mono ?_); rintro e w2 ⟨rfl, hb⟩; replace HS := Lib.hid (HS.out.below hb); clear c0 c1 c2; replace KB := Lib.hid (blk_below KB.out hb); replace HB := Lib.hid (HB.out.trans (hb.mono HB.out.size)); (obtain ⟨c0, -⟩ := Hp.blk_cell KB.out 0 rfl); (obtain ⟨c1, -⟩ := Hp.blk_cell KB.out 1 rfl); (obtain ⟨c2, -⟩ := Hp.blk_cell KB.out 2 rfl); clear hb))
    | (go_at_call 48; ((with_reducible refine (layout_Plan_Place.calls P T R (wrap64 ref) pg b _ HPl.out).mono ?_); rintro e w3 ⟨rfl, hb⟩; replace HS := Lib.hid (HS.out.below hb); clear c0 c1 c2; replace KB := Lib.hid (blk_below KB.out hb); replace HB := Lib.hid (HB.out.trans (hb.mono HB.out.size)); (obtain ⟨c0, -⟩ := Hp.blk_cell KB.out 0 rfl); (obtain ⟨c1, -⟩ := Hp.blk_cell KB.out 1 rfl); (obtain ⟨c2, -⟩ := Hp.blk_cell KB.out 2 rfl); clear hb))
    | (go_at_call 50; ((with_reducible refine (layout_Plan_Mark.calls P T R pg q _ HQ.out).mono ?_); rintro e w4 ⟨rfl, hb⟩; replace HS := Lib.hid (HS.out.below hb); clear c0 c1 c2; replace KB := Lib.hid (blk_below KB.out hb); replace HB := Lib.hid (HB.out.trans (hb.mono HB.out.size)); (obtain ⟨c0, -⟩ := Hp.blk_cell KB.out 0 rfl); (obtain ⟨c1, -⟩ := Hp.blk_cell KB.out 1 rfl); (obtain ⟨c2, -⟩ := Hp.blk_cell KB.out 2 rfl); clear hb))
    | (go_at_call 54; ((have hm := HS.out.peek q); rw [if_pos HH.out, if_pos HH.out, ← HX.out] at hm; (with_reducible refine hm.mono ?_); clear hm; rintro e w5 ⟨rfl, n, rfl⟩; replace HB := Lib.hid (HB.out.trans (below_dn n HB.out.size)); clear c0 c1 c2 KB)))
  go_ret
  exact ⟨rfl, HB.out⟩
end Go.Proofs.Ytcnledehnefldaa.Ar

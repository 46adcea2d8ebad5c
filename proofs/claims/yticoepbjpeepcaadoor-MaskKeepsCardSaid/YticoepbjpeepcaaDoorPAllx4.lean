-- Written by a program of the prover's (mp.py). Not trusted: Lean checks it.
import Derived.Test.YticoepbjpeepcaaDoorPAllx0
import Derived.Test.YticoepbjpeepcaaDoorPAllx1
import Derived.Test.YticoepbjpeepcaaDoorPAllx2
import Derived.Test.YticoepbjpeepcaaDoorPAllx3
namespace Go.Proofs.YticoepbjpeepcaaDoor.PAll
open Go.RowKit Go.Proofs.YticoepbjpeepcaaDoorW.PrintWords Go.Proofs.YticoepbjpeepcaaDoorW.PrintLast Go.Proofs.YticoepbjpeepcaaDoorW.PrintMore
attribute [local go_sem] max2_int min2_int max_two min_two max_three min_three max_four min_four   -- for this text's walks alone
set_option linter.unusedVariables false
set_option linter.unusedSimpArgs false

/-! ### windrowlaw04_MaskKeeps: function 7 -/
mutual
def windrowlaw04_MaskKeeps.j0 : Nat → List Int → Int → Bool → Option (Bool)
  | 0, _, _, _ => none
  | k + 1, x0, x1, x21 => if x21 = true then ((windrowlaw04_masked.f k).bind fun t147 => (some t147)) else ((some (([] : List Int) : List Int)).bind fun y148 => (if y148.length + x0.length < 17592186044416 then ((some (y148 ++ x0 : List Int)).bind fun y151 => ((some (([71, 72] : List Int) : List Int)).bind fun y154 => (if y151.length + y154.length < 17592186044416 then ((some (y151 ++ y154 : List Int)).bind fun y157 => (if 0 ≤ (x0.length : Int) then (if (x0.length : Int) ≤ (y157.length : Int) then ((some (y157.take ((x0.length : Int) : Int).toNat : List Int)).bind fun y160 => ((mask_With.f y160 (wrap64 (Int.tmod (IntKind.u64.wrap (x1)) 500))).bind fun bt164 => ((mask_Without.f k y160 (wrap64 (Int.tmod (IntKind.u64.wrap (x1)) 500))).bind fun bt168 => ((mask_Union.f k y160 y160).bind fun t172 => (windrowlaw04_MaskKeeps.l0 k x0 y157 bt164.1 bt168.1 t172 0))))) else (none)) else (none))) else (none)))) else (none)))
def windrowlaw04_MaskKeeps.l0 : Nat → List Int → List Int → List Int → List Int → List Int → Int → Option (Bool)
  | 0, _, _, _, _, _, _ => none
  | k + 1, x0, x5, x7, x9, x11, x12 => if x12 < (x7.length : Int) then (if 0 ≤ x12 then (windrowlaw04_MaskKeeps.l0 k x0 x5 (x7.set (x12 : Int).toNat 1) x9 x11 (wrap64 (x12 + 1))) else (none)) else (windrowlaw04_MaskKeeps.l1 k x0 x5 x9 x11 0)
def windrowlaw04_MaskKeeps.l1 : Nat → List Int → List Int → List Int → List Int → Int → Option (Bool)
  | 0, _, _, _, _, _ => none
  | k + 1, x0, x5, x9, x11, x13 => if x13 < (x9.length : Int) then (if 0 ≤ x13 then (windrowlaw04_MaskKeeps.l1 k x0 x5 (x9.set (x13 : Int).toNat 2) x11 (wrap64 (x13 + 1))) else (none)) else (windrowlaw04_MaskKeeps.l2 k x0 x5 x11 0)
def windrowlaw04_MaskKeeps.l2 : Nat → List Int → List Int → List Int → Int → Option (Bool)
  | 0, _, _, _, _ => none
  | k + 1, x0, x5, x11, x14 => if x14 < (x11.length : Int) then (if 0 ≤ x14 then (windrowlaw04_MaskKeeps.l2 k x0 x5 (x11.set (x14 : Int).toNat 3) (wrap64 (x14 + 1))) else (none)) else (if 0 ≤ (x0.length : Int) then (if (x0.length : Int) ≤ (x5.length : Int) then ((windrowref01_Words.f k (x5.take ((x0.length : Int) : Int).toNat) x0).bind fun t182 => (if t182 = true then (if (x0.length : Int) < (x5.length : Int) then (if (rd x5 (x0.length : Int)) = 71 then (if 0 ≤ (wrap64 ((x0.length : Int) + 1)) then (if (wrap64 ((x0.length : Int) + 1)) < (x5.length : Int) then (some ((rd x5 (wrap64 ((x0.length : Int) + 1))) == 72)) else (none)) else (none)) else (some false)) else (none)) else (some false))) else (none)) else (none))
end
def windrowlaw04_MaskKeeps.f (k : Nat) (l0 : List Int) (a1 : Int) : Option (Bool) := (windrowlaw04_masked.f k).bind fun t146 => (if t146 = true then (windrowlaw04_MaskKeeps.j0 k l0 a1 (decide ((l0.length : Int) > 8))) else (windrowlaw04_MaskKeeps.j0 k l0 a1 true))
theorem windrowlaw04_MaskKeeps.mono_l : ∀ k, (∀ y0 y1 y2, LeO (windrowlaw04_MaskKeeps.j0 k y0 y1 y2) (windrowlaw04_MaskKeeps.j0 (k + 1) y0 y1 y2)) ∧ (∀ y0 y1 y2 y3 y4 y5, LeO (windrowlaw04_MaskKeeps.l0 k y0 y1 y2 y3 y4 y5) (windrowlaw04_MaskKeeps.l0 (k + 1) y0 y1 y2 y3 y4 y5)) ∧ (∀ y0 y1 y2 y3 y4, LeO (windrowlaw04_MaskKeeps.l1 k y0 y1 y2 y3 y4) (windrowlaw04_MaskKeeps.l1 (k + 1) y0 y1 y2 y3 y4)) ∧ (∀ y0 y1 y2 y3, LeO (windrowlaw04_MaskKeeps.l2 k y0 y1 y2 y3) (windrowlaw04_MaskKeeps.l2 (k + 1) y0 y1 y2 y3))
  | 0 => ⟨fun _ _ _ r h => by simp [windrowlaw04_MaskKeeps.j0] at h, fun _ _ _ _ _ _ r h => by simp [windrowlaw04_MaskKeeps.l0] at h, fun _ _ _ _ _ r h => by simp [windrowlaw04_MaskKeeps.l1] at h, fun _ _ _ _ r h => by simp [windrowlaw04_MaskKeeps.l2] at h⟩
  | k + 1 => by
    obtain ⟨ih0, ih1, ih2, ih3⟩ := windrowlaw04_MaskKeeps.mono_l k
    refine ⟨?_, ?_, ?_, ?_⟩
    · intro y0 y1 y2
      unfold windrowlaw04_MaskKeeps.j0
      repeat' first
      | (with_reducible exact ih0 _ _ _)
      | (with_reducible exact ih1 _ _ _ _ _ _)
      | (with_reducible exact ih2 _ _ _ _ _)
      | (with_reducible exact ih3 _ _ _ _)
      | (with_reducible exact mask_Union.mono _ _ _)
      | (with_reducible exact mask_Without.mono _ _ _)
      | (with_reducible exact windrowlaw04_masked.mono _)
      | (with_reducible exact windrowref01_Words.mono _ _ _)
      | (with_reducible exact LeO.refl _)
      | (with_reducible exact LeO.none _)
      | (with_reducible refine LeO.ite ?_ ?_)
      | (with_reducible refine LeO.bind ?_ (fun _ => ?_))
      | exact ih0 _ _ _
      | exact ih1 _ _ _ _ _ _
      | exact ih2 _ _ _ _ _
      | exact ih3 _ _ _ _
      | exact mask_Union.mono _ _ _
      | exact mask_Without.mono _ _ _
      | exact windrowlaw04_masked.mono _
      | exact windrowref01_Words.mono _ _ _
      | exact LeO.none _
      | refine LeO.ite ?_ ?_
      | refine LeO.bind ?_ (fun _ => ?_)
    · intro y0 y1 y2 y3 y4 y5
      unfold windrowlaw04_MaskKeeps.l0
      repeat' first
      | (with_reducible exact ih0 _ _ _)
      | (with_reducible exact ih1 _ _ _ _ _ _)
      | (with_reducible exact ih2 _ _ _ _ _)
      | (with_reducible exact ih3 _ _ _ _)
      | (with_reducible exact mask_Union.mono _ _ _)
      | (with_reducible exact mask_Without.mono _ _ _)
      | (with_reducible exact windrowlaw04_masked.mono _)
      | (with_reducible exact windrowref01_Words.mono _ _ _)
      | (with_reducible exact LeO.refl _)
      | (with_reducible exact LeO.none _)
      | (with_reducible refine LeO.ite ?_ ?_)
      | (with_reducible refine LeO.bind ?_ (fun _ => ?_))
      | exact ih0 _ _ _
      | exact ih1 _ _ _ _ _ _
      | exact ih2 _ _ _ _ _
      | exact ih3 _ _ _ _
      | exact mask_Union.mono _ _ _
      | exact mask_Without.mono _ _ _
      | exact windrowlaw04_masked.mono _
      | exact windrowref01_Words.mono _ _ _
      | exact LeO.none _
      | refine LeO.ite ?_ ?_
      | refine LeO.bind ?_ (fun _ => ?_)
    · intro y0 y1 y2 y3 y4
      unfold windrowlaw04_MaskKeeps.l1
      repeat' first
      | (with_reducible exact ih0 _ _ _)
      | (with_reducible exact ih1 _ _ _ _ _ _)
      | (with_reducible exact ih2 _ _ _ _ _)
      | (with_reducible exact ih3 _ _ _ _)
      | (with_reducible exact mask_Union.mono _ _ _)
      | (with_reducible exact mask_Without.mono _ _ _)
      | (with_reducible exact windrowlaw04_masked.mono _)
      | (with_reducible exact windrowref01_Words.mono _ _ _)
      | (with_reducible exact LeO.refl _)
      | (with_reducible exact LeO.none _)
      | (with_reducible refine LeO.ite ?_ ?_)
      | (with_reducible refine LeO.bind ?_ (fun _ => ?_))
      | exact ih0 _ _ _
      | exact ih1 _ _ _ _ _ _
      | exact ih2 _ _ _ _ _
      | exact ih3 _ _ _ _
      | exact mask_Union.mono _ _ _
      | exact mask_Without.mono _ _ _
      | exact windrowlaw04_masked.mono _
      | exact windrowref01_Words.mono _ _ _
      | exact LeO.none _
      | refine LeO.ite ?_ ?_
      | refine LeO.bind ?_ (fun _ => ?_)
    · intro y0 y1 y2 y3
      unfold windrowlaw04_MaskKeeps.l2
      repeat' first
      | (with_reducible exact ih0 _ _ _)
      | (with_reducible exact ih1 _ _ _ _ _ _)
      | (with_reducible exact ih2 _ _ _ _ _)
      | (with_reducible exact ih3 _ _ _ _)
      | (with_reducible exact mask_Union.mono _ _ _)
      | (with_reducible exact mask_Without.mono _ _ _)
      | (with_reducible exact windrowlaw04_masked.mono _)
      | (with_reducible exact windrowref01_Words.mono _ _ _)
      | (with_reducible exact LeO.refl _)
      | (with_reducible exact LeO.none _)
      | (with_reducible refine LeO.ite ?_ ?_)
      | (with_reducible refine LeO.bind ?_ (fun _ => ?_))
      | exact ih0 _ _ _
      | exact ih1 _ _ _ _ _ _
      | exact ih2 _ _ _ _ _
      | exact ih3 _ _ _ _
      | exact mask_Union.mono _ _ _
      | exact mask_Without.mono _ _ _
      | exact windrowlaw04_masked.mono _
      | exact windrowref01_Words.mono _ _ _
      | exact LeO.none _
      | refine LeO.ite ?_ ?_
      | refine LeO.bind ?_ (fun _ => ?_)
theorem windrowlaw04_MaskKeeps.mono : ∀ a0 a1 k, LeO (windrowlaw04_MaskKeeps.f k a0 a1) (windrowlaw04_MaskKeeps.f (k + 1) a0 a1) := by
  intro a0 a1 k
  obtain ⟨ih0, ih1, ih2, ih3⟩ := windrowlaw04_MaskKeeps.mono_l k
  unfold windrowlaw04_MaskKeeps.f
  repeat' first
      | (with_reducible exact ih0 _ _ _)
      | (with_reducible exact ih1 _ _ _ _ _ _)
      | (with_reducible exact ih2 _ _ _ _ _)
      | (with_reducible exact ih3 _ _ _ _)
      | (with_reducible exact mask_Union.mono _ _ _)
      | (with_reducible exact mask_Without.mono _ _ _)
      | (with_reducible exact windrowlaw04_masked.mono _)
      | (with_reducible exact windrowref01_Words.mono _ _ _)
      | (with_reducible exact LeO.refl _)
      | (with_reducible exact LeO.none _)
      | (with_reducible refine LeO.ite ?_ ?_)
      | (with_reducible refine LeO.bind ?_ (fun _ => ?_))
      | exact ih0 _ _ _
      | exact ih1 _ _ _ _ _ _
      | exact ih2 _ _ _ _ _
      | exact ih3 _ _ _ _
      | exact mask_Union.mono _ _ _
      | exact mask_Without.mono _ _ _
      | exact windrowlaw04_masked.mono _
      | exact windrowref01_Words.mono _ _ _
      | exact LeO.none _
      | refine LeO.ite ?_ ?_
      | refine LeO.bind ?_ (fun _ => ?_)
set_option maxHeartbeats 8000000 in
set_option maxRecDepth 100000 in
theorem windrowlaw04_MaskKeeps.calls (k : Nat) (A0 : Option Addr) (c0 : Nat) (l0 : List Int) (a1 : Int) (r : Bool) (w : World) (hr0 : Kd.C (Kd.int .u64) w A0 l0.length l0) (hc0 : l0.length ≤ c0) (HTRUE_ : Aside0 (r = true)) (HL_ : Aside0 (LAID w)) (h : windrowlaw04_MaskKeeps.f k l0 a1 = some r) :
    Calls Tryd.prog 7 #[.slice A0 l0.length c0, .int .i64 a1] w fun e w' => e = .returned (.bool r) ∧ Below w.heap.size w w' := by
  have HR0 := Aside0.mk hr0
  have HC0 := Aside0.mk hc0
  clear hr0 hc0
  have HB := Aside0.mk (Below.refl w.heap.size w)
  have H : ((windrowlaw04_masked.f k).bind fun t146 => (if t146 = true then (windrowlaw04_MaskKeeps.j0 k l0 a1 (decide ((l0.length : Int) > 8))) else (windrowlaw04_MaskKeeps.j0 k l0 a1 true))) = some r := h
  clear h
  have HC3 := Aside0.mk H
  clear H
  go_enter Tryd.func7, Tryd.ntmps7
  go_upto_region 1 with (fail)
  go_cut [21] (fun v21 wc => ∃ (kq : Nat) (x21_2 : Bool), v21 = .bool x21_2 ∧ Aside0 (windrowlaw04_MaskKeeps.j0 kq l0 a1 x21_2 = some r) ∧ Aside0 (kq ≤ k) ∧ Aside0 (Below w.heap.size w wc))
  case first =>
    have H := HC3.out
    clear HC3
    replace H := Option.bind_eq_some_iff.mp H
    obtain ⟨t146, A40, H⟩ := H
    replace H : (if t146 = true then (windrowlaw04_MaskKeeps.j0 k l0 a1 (decide ((l0.length : Int) > 8))) else (windrowlaw04_MaskKeeps.j0 k l0 a1 true)) = some r := H
    have A4 := Aside0.mk A40
    clear A40
    by_cases c5 : t146 = true
    · subst c5
      have H1 : (windrowlaw04_MaskKeeps.j0 k l0 a1 (decide ((l0.length : Int) > 8))) = some r := by rw [if_pos rfl] at H; exact H
      clear H
      have H := H1
      clear H1
      have H' := Aside0.mk H
      clear H
      go_wp2_with (first | ((with_reducible refine gate_callee (f := 12) rfl ?_); refine goesL_ (some 15) rfl rfl Tryd.func12 (by kernel_rfl) rfl #[] rfl (by (try simp only [List.map_toArray, List.map_cons, List.map_nil]); first | done | rfl | (simp only [List.length_drop, List.length_take]; rfl)) ?_; (with_reducible refine (windrowlaw04_masked.calls k  true _ ?side1 A4.out).mono ?_); (case side1 => exact ⟨LAID.below HL_.out (by repeat (first | (with_reducible first | exact HB.out | apply below_alloc | apply pw_below_drewN | apply below_drew1) | exact HB.out))⟩); rintro e w6 ⟨rfl, hb⟩; refine ⟨_, rfl, ?_⟩; have n0_ := Aside0.mk (below_step (by repeat (first | (with_reducible first | exact HB.out | apply below_alloc | apply pw_below_drewN | apply below_drew1) | exact HB.out)) hb); clear HB; have HB := n0_; clear n0_; (try clear hb); (try clear hb2); (try clear hk); (try clear hi)))
      go_meet
      case rel => exact ⟨_, (decide ((l0.length : Int) > 8)), (by first | rfl | (simp; done) | (simp [*]; done)), H', ⟨by first | omega | exact Nat.le_refl _⟩, ⟨by repeat (first | (with_reducible first | exact HB.out | apply below_alloc | apply pw_below_drewN | apply below_drew1) | exact HB.out)⟩⟩
    · replace c5 := Bool.eq_false_iff.mpr c5
      subst c5
      have H1 : (windrowlaw04_MaskKeeps.j0 k l0 a1 true) = some r := by rw [if_neg (show ¬ (false = true) by decide)] at H; exact H
      clear H
      have H := H1
      clear H1
      have H' := Aside0.mk H
      clear H
      go_wp2_with (first | ((with_reducible refine gate_callee (f := 12) rfl ?_); refine goesL_ (some 15) rfl rfl Tryd.func12 (by kernel_rfl) rfl #[] rfl (by (try simp only [List.map_toArray, List.map_cons, List.map_nil]); first | done | rfl | (simp only [List.length_drop, List.length_take]; rfl)) ?_; (with_reducible refine (windrowlaw04_masked.calls k  false _ ?side1 A4.out).mono ?_); (case side1 => exact ⟨LAID.below HL_.out (by repeat (first | (with_reducible first | exact HB.out | apply below_alloc | apply pw_below_drewN | apply below_drew1) | exact HB.out))⟩); rintro e w7 ⟨rfl, hb⟩; refine ⟨_, rfl, ?_⟩; have n0_ := Aside0.mk (below_step (by repeat (first | (with_reducible first | exact HB.out | apply below_alloc | apply pw_below_drewN | apply below_drew1) | exact HB.out)) hb); clear HB; have HB := n0_; clear n0_; (try clear hb); (try clear hb2); (try clear hk); (try clear hi)))
      go_meet
      case rel => exact ⟨_, (true), (by first | rfl | (simp; done) | (simp [*]; done)), H', ⟨by first | omega | exact Nat.le_refl _⟩, ⟨by repeat (first | (with_reducible first | exact HB.out | apply below_alloc | apply pw_below_drewN | apply below_drew1) | exact HB.out)⟩⟩
  case rest =>
    clear HC3
    try clear c1
    try clear p2
    try clear c5
    try clear c7
    obtain ⟨kq, x21_2, rfl, HA, HJ2, HB⟩ := hcut
    cases kq with
    | zero => exact absurd HA.out (by simp [windrowlaw04_MaskKeeps.j0])
    | succ kj2 =>
      have H := HA.out
      clear HA
      simp only [windrowlaw04_MaskKeeps.j0] at H
      by_cases c8 : x21_2 = true
      · subst c8
        have H1 : ((windrowlaw04_masked.f kj2).bind fun t147 => (some t147)) = some r := by rw [if_pos rfl] at H; exact H
        clear H
        have H := H1
        clear H1
        replace H := Option.bind_eq_some_iff.mp H
        obtain ⟨t147, A90, H⟩ := H
        replace H : (some t147) = some r := H
        have A9 := Aside0.mk A90
        clear A90
        obtain rfl := Option.some.inj H
        go_wp2_with (first | ((with_reducible refine gate_callee (f := 12) rfl ?_); refine goesL_ (some 22) rfl rfl Tryd.func12 (by kernel_rfl) rfl #[] rfl (by (try simp only [List.map_toArray, List.map_cons, List.map_nil]); first | done | rfl | (simp only [List.length_drop, List.length_take]; rfl)) ?_; (with_reducible refine (windrowlaw04_masked.calls kj2  t147 _ ?side1 A9.out).mono ?_); (case side1 => exact ⟨LAID.below HL_.out (by repeat (first | (with_reducible first | exact HB.out | apply below_alloc | apply pw_below_drewN | apply below_drew1) | exact HB.out))⟩); rintro e w10 ⟨rfl, hb⟩; refine ⟨_, rfl, ?_⟩; have n0_ := Aside0.mk (below_step (by repeat (first | (with_reducible first | exact HB.out | apply below_alloc | apply pw_below_drewN | apply below_drew1) | exact HB.out)) hb); clear HB; have HB := n0_; clear n0_; (try clear hb); (try clear hb2); (try clear hk); (try clear hi)))
        go_ret
        exact ⟨by first | rfl | (simp [errW_none, errW_some] <;> rfl) | (simp [*, errW_none, errW_some] <;> rfl), by repeat (first | (with_reducible first | exact HB.out | apply below_alloc | apply pw_below_drewN | apply below_drew1) | exact HB.out)⟩
      · replace c8 := Bool.eq_false_iff.mpr c8
        subst c8
        have H1 : ((some (([] : List Int) : List Int)).bind fun y148 => (if y148.length + l0.length < 17592186044416 then ((some (y148 ++ l0 : List Int)).bind fun y151 => ((some (([71, 72] : List Int) : List Int)).bind fun y154 => (if y151.length + y154.length < 17592186044416 then ((some (y151 ++ y154 : List Int)).bind fun y157 => (if 0 ≤ (l0.length : Int) then (if (l0.length : Int) ≤ (y157.length : Int) then ((some (y157.take ((l0.length : Int) : Int).toNat : List Int)).bind fun y160 => ((mask_With.f y160 (wrap64 (Int.tmod (IntKind.u64.wrap (a1)) 500))).bind fun bt164 => ((mask_Without.f kj2 y160 (wrap64 (Int.tmod (IntKind.u64.wrap (a1)) 500))).bind fun bt168 => ((mask_Union.f kj2 y160 y160).bind fun t172 => (windrowlaw04_MaskKeeps.l0 kj2 l0 y157 bt164.1 bt168.1 t172 0))))) else (none)) else (none))) else (none)))) else (none))) = some r := by rw [if_neg (show ¬ (false = true) by decide)] at H; exact H
        clear H
        have H := H1
        clear H1
        obtain ⟨y148, hy148⟩ : ∃ y_ : List Int, y_ = (([] : List Int)) := ⟨_, rfl⟩
        replace H : (if y148.length + l0.length < 17592186044416 then ((some (y148 ++ l0 : List Int)).bind fun y151 => ((some (([71, 72] : List Int) : List Int)).bind fun y154 => (if y151.length + y154.length < 17592186044416 then ((some (y151 ++ y154 : List Int)).bind fun y157 => (if 0 ≤ (l0.length : Int) then (if (l0.length : Int) ≤ (y157.length : Int) then ((some (y157.take ((l0.length : Int) : Int).toNat : List Int)).bind fun y160 => ((mask_With.f y160 (wrap64 (Int.tmod (IntKind.u64.wrap (a1)) 500))).bind fun bt164 => ((mask_Without.f kj2 y160 (wrap64 (Int.tmod (IntKind.u64.wrap (a1)) 500))).bind fun bt168 => ((mask_Union.f kj2 y160 y160).bind fun t172 => (windrowlaw04_MaskKeeps.l0 kj2 l0 y157 bt164.1 bt168.1 t172 0))))) else (none)) else (none))) else (none)))) else (none)) = some r := by first | (rw [hy148]; with_reducible exact H) | (have H2_ := (Option.bind_some _ _).symm.trans H; rw [hy148]; with_reducible exact H2_) | (have H2_ := (Option.bind_some _ _).symm.trans H; with_reducible exact H2_) | with_reducible exact H | (rw [hy148]; exact H) | exact H
        have Ny148 := Aside0.mk hy148
        clear hy148
        by_cases c11 : y148.length + l0.length < 17592186044416
        · rw [if_pos c11] at H
          have LMc11 := Aside0.mk c11
          clear c11
          obtain ⟨y151, hy151⟩ : ∃ y_ : List Int, y_ = (y148 ++ l0) := ⟨_, rfl⟩
          replace H : ((some (([71, 72] : List Int) : List Int)).bind fun y154 => (if y151.length + y154.length < 17592186044416 then ((some (y151 ++ y154 : List Int)).bind fun y157 => (if 0 ≤ (l0.length : Int) then (if (l0.length : Int) ≤ (y157.length : Int) then ((some (y157.take ((l0.length : Int) : Int).toNat : List Int)).bind fun y160 => ((mask_With.f y160 (wrap64 (Int.tmod (IntKind.u64.wrap (a1)) 500))).bind fun bt164 => ((mask_Without.f kj2 y160 (wrap64 (Int.tmod (IntKind.u64.wrap (a1)) 500))).bind fun bt168 => ((mask_Union.f kj2 y160 y160).bind fun t172 => (windrowlaw04_MaskKeeps.l0 kj2 l0 y157 bt164.1 bt168.1 t172 0))))) else (none)) else (none))) else (none))) = some r := by first | (rw [hy151]; with_reducible exact H) | (have H2_ := (Option.bind_some _ _).symm.trans H; rw [hy151]; with_reducible exact H2_) | (have H2_ := (Option.bind_some _ _).symm.trans H; with_reducible exact H2_) | with_reducible exact H | (rw [hy151]; exact H) | exact H
          have Ny151 := Aside0.mk hy151
          clear hy151
          obtain ⟨y154, hy154⟩ : ∃ y_ : List Int, y_ = (([71, 72] : List Int)) := ⟨_, rfl⟩
          replace H : (if y151.length + y154.length < 17592186044416 then ((some (y151 ++ y154 : List Int)).bind fun y157 => (if 0 ≤ (l0.length : Int) then (if (l0.length : Int) ≤ (y157.length : Int) then ((some (y157.take ((l0.length : Int) : Int).toNat : List Int)).bind fun y160 => ((mask_With.f y160 (wrap64 (Int.tmod (IntKind.u64.wrap (a1)) 500))).bind fun bt164 => ((mask_Without.f kj2 y160 (wrap64 (Int.tmod (IntKind.u64.wrap (a1)) 500))).bind fun bt168 => ((mask_Union.f kj2 y160 y160).bind fun t172 => (windrowlaw04_MaskKeeps.l0 kj2 l0 y157 bt164.1 bt168.1 t172 0))))) else (none)) else (none))) else (none)) = some r := by first | (rw [hy154]; with_reducible exact H) | (have H2_ := (Option.bind_some _ _).symm.trans H; rw [hy154]; with_reducible exact H2_) | (have H2_ := (Option.bind_some _ _).symm.trans H; with_reducible exact H2_) | with_reducible exact H | (rw [hy154]; exact H) | exact H
          have Ny154 := Aside0.mk hy154
          clear hy154
          by_cases c12 : y151.length + y154.length < 17592186044416
          · rw [if_pos c12] at H
            have LMc12 := Aside0.mk c12
            clear c12
            obtain ⟨y157, hy157⟩ : ∃ y_ : List Int, y_ = (y151 ++ y154) := ⟨_, rfl⟩
            replace H : (if 0 ≤ (l0.length : Int) then (if (l0.length : Int) ≤ (y157.length : Int) then ((some (y157.take ((l0.length : Int) : Int).toNat : List Int)).bind fun y160 => ((mask_With.f y160 (wrap64 (Int.tmod (IntKind.u64.wrap (a1)) 500))).bind fun bt164 => ((mask_Without.f kj2 y160 (wrap64 (Int.tmod (IntKind.u64.wrap (a1)) 500))).bind fun bt168 => ((mask_Union.f kj2 y160 y160).bind fun t172 => (windrowlaw04_MaskKeeps.l0 kj2 l0 y157 bt164.1 bt168.1 t172 0))))) else (none)) else (none)) = some r := by first | (rw [hy157]; with_reducible exact H) | (have H2_ := (Option.bind_some _ _).symm.trans H; rw [hy157]; with_reducible exact H2_) | (have H2_ := (Option.bind_some _ _).symm.trans H; with_reducible exact H2_) | with_reducible exact H | (rw [hy157]; exact H) | exact H
            have Ny157 := Aside0.mk hy157
            clear hy157
            by_cases c13 : 0 ≤ (l0.length : Int)
            · rw [if_pos c13] at H
              have c13b0 := eq_true c13
              have c13b1 : decide (0 ≤ (l0.length : Int)) = true := decide_eq_true c13
              clear c13
              by_cases c14 : (l0.length : Int) ≤ (y157.length : Int)
              · rw [if_pos c14] at H
                have c14b0 := eq_true c14
                have c14b1 : decide ((l0.length : Int) ≤ (y157.length : Int)) = true := decide_eq_true c14
                clear c14
                obtain ⟨y160, hy160⟩ : ∃ y_ : List Int, y_ = (y157.take ((l0.length : Int) : Int).toNat) := ⟨_, rfl⟩
                replace H : ((mask_With.f y160 (wrap64 (Int.tmod (IntKind.u64.wrap (a1)) 500))).bind fun bt164 => ((mask_Without.f kj2 y160 (wrap64 (Int.tmod (IntKind.u64.wrap (a1)) 500))).bind fun bt168 => ((mask_Union.f kj2 y160 y160).bind fun t172 => (windrowlaw04_MaskKeeps.l0 kj2 l0 y157 bt164.1 bt168.1 t172 0)))) = some r := by first | (rw [hy160]; with_reducible exact H) | (have H2_ := (Option.bind_some _ _).symm.trans H; rw [hy160]; with_reducible exact H2_) | (have H2_ := (Option.bind_some _ _).symm.trans H; with_reducible exact H2_) | with_reducible exact H | (rw [hy160]; exact H) | exact H
                have Ny160 := Aside0.mk hy160
                clear hy160
                replace H := Option.bind_eq_some_iff.mp H
                obtain ⟨⟨t164, t165⟩, A150, H⟩ := H
                replace H : ((mask_Without.f kj2 y160 (wrap64 (Int.tmod (IntKind.u64.wrap (a1)) 500))).bind fun bt168 => ((mask_Union.f kj2 y160 y160).bind fun t172 => (windrowlaw04_MaskKeeps.l0 kj2 l0 y157 t164 bt168.1 t172 0))) = some r := H
                have A15 := Aside0.mk A150
                clear A150
                replace H := Option.bind_eq_some_iff.mp H
                obtain ⟨⟨t168, t169⟩, A160, H⟩ := H
                replace H : ((mask_Union.f kj2 y160 y160).bind fun t172 => (windrowlaw04_MaskKeeps.l0 kj2 l0 y157 t164 t168 t172 0)) = some r := H
                have A16 := Aside0.mk A160
                clear A160
                replace H := Option.bind_eq_some_iff.mp H
                obtain ⟨t172, A170, H⟩ := H
                replace H : (windrowlaw04_MaskKeeps.l0 kj2 l0 y157 t164 t168 t172 0) = some r := H
                have A17 := Aside0.mk A170
                clear A170
                have H' := Aside0.mk H
                clear H
                go_wp2_with (first | ((with_reducible refine gate_dst (N := 27) rfl ?_); (try (refine gate_guard (by rfl) ?_; dsimp only)); refine Kd.R_lit (Kd.int .u64) _ 34 ?hg (N := 27) ?hd (xs := ([] : List Int)) (inner := []) (ok := fun _ => True) (okp := fun _ => True) ?hr ?hp (fun _ hk => hk) trivial (Below.refl _ _) (Nat.le_refl _) (by simp) ?_; (case hd => rfl); (case hg => rfl); (case hr => first | (go_simp; done) | (go_simp; rfl)); (case hp => exact (Reps.none _ _)); intro v149 w18 ho19 hb hg_ hnew_; clear hg_ hnew_; (first | rw [← Ny148.out] at ho19 | (simp only [Int.reduceToNat] at ho19; rw [← Ny148.out] at ho19)); have n0_ := Aside0.mk (Kd.R_lower ho19 (below_size (by repeat (first | (with_reducible first | exact HB.out | apply below_alloc | apply pw_below_drewN | apply below_drew1) | exact HB.out)))); have n1_ := Aside0.mk (below_step (by repeat (first | (with_reducible first | exact HB.out | apply below_alloc | apply pw_below_drewN | apply below_drew1) | exact HB.out)) hb); clear HB; have HO150 := n0_; have HB := n1_; clear n0_ n1_; clear hb ho19) | ((with_reducible refine gate_builtin (b := .append) (xs := #[.tmp 27, .tmp 28]) rfl ?_); (try (refine gate_guard (by rfl) ?_; dsimp only)); at_builtin; refine Kd.R_append_rows (Kd.int .u64) (w0 := w) w.heap.size rfl (.tmp 27) (.tmp 28) 24 34 (.int .u64 0) 8 rfl Tryd.underlying24 info34 rfl (by decide) (by omega) v149 y148 l0 _ _ _ (fun _ => True) (fun _ => False) rfl rfl ?aO ?aR (fun _ _ h => h) (fun _ h => h.elim) ?aF ?aB ?aS ?aL ?_; (case aR => repeat (first | exact (Kd.C_below HR0.out HB.out) | (with_reducible refine Kd.C_alloc ?_ _) | (with_reducible refine Kd.C_drewN ?_ _) | (with_reducible refine Kd.C_drew ?_))); (case aB => exact (by repeat (first | (with_reducible first | exact HB.out | apply below_alloc | apply pw_below_drewN | apply below_drew1) | exact HB.out))); (case aF => exact (fun _ _ => trivial)); (case aO => exact (by (with_reducible repeat (first | apply Kd.R_alloc | apply Kd.R_drewN | apply Kd.R_drew)); exact HO150.out)); (case aS => exact (below_size (by repeat (first | (with_reducible first | exact HB.out | apply below_alloc | apply pw_below_drewN | apply below_drew1) | exact HB.out)))); (case aL => have := LMc11.out; omega); intro v152 w20 ho hb hg hat; rw [← Ny151.out] at ho; have n0_ := Aside0.mk (hb); have n1_ := Aside0.mk (ho); clear HB; clear HO150; have HB := n0_; have HO153 := n1_; clear n0_ n1_; clear ho hb hg hat) | ((with_reducible refine gate_dst (N := 30) rfl ?_); (try (refine gate_guard (by rfl) ?_; dsimp only)); refine Kd.R_lit (Kd.int .u64) _ 34 ?hg (N := 30) ?hd (xs := ([71, 72] : List Int)) (inner := [.int .u64 71, .int .u64 72]) (ok := fun _ => True) (okp := fun _ => True) ?hr ?hp (fun _ hk => hk) trivial (Below.refl _ _) (Nat.le_refl _) (by simp) ?_; (case hd => rfl); (case hg => rfl); (case hr => first | (go_simp; done) | (go_simp; rfl)); (case hp => exact (Reps.one (show Kd.M (Kd.int .u64) _ _ _ 71 [.int .u64 71] from rfl) (Reps.one (show Kd.M (Kd.int .u64) _ _ _ 72 [.int .u64 72] from rfl) (Reps.none _ _)))); intro v155 w21 ho22 hb hg_ hnew_; clear hg_ hnew_; (first | rw [← Ny154.out] at ho22 | (simp only [Int.reduceToNat] at ho22; rw [← Ny154.out] at ho22)); have n0_ := Aside0.mk (Kd.R_elder' (by (with_reducible repeat (first | apply Kd.R_alloc | apply Kd.R_drewN | apply Kd.R_drew)); exact HO153.out) (Kd.R_base ho22) hb); have n1_ := Aside0.mk (Kd.R_lower (Kd.R_new' ho22 (Kd.R_lt (by (with_reducible repeat (first | apply Kd.R_alloc | apply Kd.R_drewN | apply Kd.R_drew)); exact HO153.out))) (below_size (by repeat (first | (with_reducible first | exact HB.out | apply below_alloc | apply pw_below_drewN | apply below_drew1) | exact HB.out)))); have n2_ := Aside0.mk (below_step (by repeat (first | (with_reducible first | exact HB.out | apply below_alloc | apply pw_below_drewN | apply below_drew1) | exact HB.out)) hb); clear HO153; clear HB; have HO153 := n0_; have HO156 := n1_; have HB := n2_; clear n0_ n1_ n2_; clear hb ho22; obtain ⟨Ao24, co24, eo24⟩ := Kd.R_slice HO156.out; subst eo24) | ((with_reducible refine gate_builtin (b := .append) (xs := #[.tmp 29, .tmp 30]) rfl ?_); (try (refine gate_guard (by rfl) ?_; dsimp only)); at_builtin; refine Kd.R_append_rows (Kd.int .u64) (w0 := w) w.heap.size rfl (.tmp 29) (.tmp 30) 24 34 (.int .u64 0) 8 rfl Tryd.underlying24 info34 rfl (by decide) (by omega) v152 y151 y154 _ _ _ (fun k_ => some k_ ≠ (.slice Ao24 y154.length co24 : Value).ownBlock) (fun _ => False) rfl rfl ?aO ?aR (fun _ _ h => h) (fun _ h => h.elim) ?aF ?aB ?aS ?aL ?_; (case aR => repeat (first | exact (Kd.R_reads' HO156.out).2.2 | (with_reducible refine Kd.C_alloc ?_ _) | (with_reducible refine Kd.C_drewN ?_ _) | (with_reducible refine Kd.C_drew ?_))); (case aB => exact (by repeat (first | (with_reducible first | exact HB.out | apply below_alloc | apply pw_below_drewN | apply below_drew1) | exact HB.out))); (case aF => exact (fun k_ hk => Kd.fresh' (Kd.R_lt (by (with_reducible repeat (first | apply Kd.R_alloc | apply Kd.R_drewN | apply Kd.R_drew)); exact HO156.out)) k_ hk)); (case aO => exact (by (with_reducible repeat (first | apply Kd.R_alloc | apply Kd.R_drewN | apply Kd.R_drew)); exact Kd.R_mono HO153.out (fun _ hk => hk.2))); (case aS => exact (below_size (by repeat (first | (with_reducible first | exact HB.out | apply below_alloc | apply pw_below_drewN | apply below_drew1) | exact HB.out)))); (case aL => have := LMc12.out; omega); intro v158 w23 ho hb hg hat; rw [← Ny157.out] at ho; have n0_ := Aside0.mk (Kd.R_after (ok := (fun _ => True)) (by (with_reducible repeat (first | apply Kd.R_alloc | apply Kd.R_drewN | apply Kd.R_drew)); exact HO156.out) hg hat); have n1_ := Aside0.mk (hb); have n2_ := Aside0.mk (ho); clear HO156; clear HB; clear HO153; have HO156 := n0_; have HB := n1_; have HO159 := n2_; clear n0_ n1_ n2_; clear ho hb hg hat; obtain ⟨Ao26, co26, eo26⟩ := Kd.R_slice HO159.out; subst eo26; have q25 : ((l0.length : Int) : Int) ≤ ((y157.length : Int) : Int) := of_decide_eq_true (by first | (with_reducible assumption) | assumption); obtain ⟨i025, hi025, _, hsz25, _⟩ := info_parts info34; have hroom25 : y157.length ≤ co26 := (Kd.R_reads' HO159.out).2.1; have hC25 : Kd.C (Kd.int .u64) _ Ao26 y157.length y157 := (Kd.R_reads' HO159.out).2.2; have hcut25 := cut_to (P := Tryd.prog) 24 34 .i64 Tryd.underlying24 hi025 Ao26 y157.length co26 (l0.length : Int) (of_decide_eq_true (by first | (with_reducible assumption) | assumption)) q25 hroom25; have hr25 := Kd.C_take (m := ((l0.length : Int) : Int).toNat) hC25 (by omega); have hy25 : y160.length = ((l0.length : Int) : Int).toNat := (by rw [Ny160.out, List.length_take]; omega); rw [← Ny160.out] at hr25; rw [← hy25] at hcut25; have HR163 := Aside0.mk hr25; have HC163 := Aside0.mk (show y160.length ≤ co26 from by omega); clear hr25 hC25 hroom25 hi025 hsz25; have KY25 := Aside0.mk hy25; clear hy25; have KL25 := Aside0.mk (show ((l0.length : Int) : Int).toNat ≤ y157.length from by omega); replace q25 := eq_true q25) | ((with_reducible refine gate_callee (f := 30) rfl ?_); refine goesL_ (some 39) rfl rfl Tryd.func30 (by kernel_rfl) rfl #[.slice Ao26 y160.length co26, .int .i64 (wrap64 (Int.tmod (IntKind.u64.wrap (a1)) 500))] rfl (by (try simp only [List.map_toArray, List.map_cons, List.map_nil]); first | done | rfl | (simp only [List.length_drop, List.length_take]; rfl)) ?_; (with_reducible refine (mask_With.calls _ _ y160 (wrap64 (Int.tmod (IntKind.u64.wrap (a1)) 500)) t164 t165 _ ?side1 ?side2 A15.out).mono ?_); (case side1 => repeat (first | exact (by repeat (first | (with_reducible exact HR163.out) | (with_reducible refine Kd.C_alloc ?_ _) | (with_reducible refine Kd.C_drewN ?_ _) | (with_reducible refine Kd.C_drew ?_) | exact HR163.out)) | (with_reducible refine Kd.C_alloc ?_ _) | (with_reducible refine Kd.C_drewN ?_ _) | (with_reducible refine Kd.C_drew ?_))); (case side2 => exact HC163.out); rintro e w27 ⟨v166, rfl, ho0, hb⟩; refine ⟨_, rfl, ?_⟩; have n0_ := Aside0.mk (Kd.R_elder' (by (with_reducible repeat (first | apply Kd.R_alloc | apply Kd.R_drewN | apply Kd.R_drew)); exact HO156.out) (Kd.R_base ho0) hb); have n1_ := Aside0.mk (Kd.R_elder' (by (with_reducible repeat (first | apply Kd.R_alloc | apply Kd.R_drewN | apply Kd.R_drew)); exact HO159.out) (Kd.R_base ho0) hb); have n2_ := Aside0.mk (Kd.R_lower (Kd.R_new' (Kd.R_new' ho0 (Kd.R_lt (by (with_reducible repeat (first | apply Kd.R_alloc | apply Kd.R_drewN | apply Kd.R_drew)); exact HO156.out))) (Kd.R_lt (by (with_reducible repeat (first | apply Kd.R_alloc | apply Kd.R_drewN | apply Kd.R_drew)); exact HO159.out))) (below_size (by repeat (first | (with_reducible first | exact HB.out | apply below_alloc | apply pw_below_drewN | apply below_drew1) | exact HB.out)))); have n3_ := Aside0.mk (Kd.C_below (by repeat (first | (with_reducible exact HR163.out) | (with_reducible refine Kd.C_alloc ?_ _) | (with_reducible refine Kd.C_drewN ?_ _) | (with_reducible refine Kd.C_drew ?_) | exact HR163.out)) hb); have n4_ := Aside0.mk (below_step (by repeat (first | (with_reducible first | exact HB.out | apply below_alloc | apply pw_below_drewN | apply below_drew1) | exact HB.out)) hb); clear HO156; clear HO159; clear HR163; clear HB; have HO156 := n0_; have HO159 := n1_; have HO167 := n2_; have HR163 := n3_; have HB := n4_; clear n0_ n1_ n2_ n3_ n4_; (try clear hb); (try clear hb2); (try clear hk); (try clear hi); (try clear ho0)) | ((with_reducible refine gate_callee (f := 31) rfl ?_); refine goesL_ (some 45) rfl rfl Tryd.func31 (by kernel_rfl) rfl #[.slice Ao26 y160.length co26, .int .i64 (wrap64 (Int.tmod (IntKind.u64.wrap (a1)) 500))] rfl (by (try simp only [List.map_toArray, List.map_cons, List.map_nil]); first | done | rfl | (simp only [List.length_drop, List.length_take]; rfl)) ?_; (with_reducible refine (mask_Without.calls kj2 _ _ y160 (wrap64 (Int.tmod (IntKind.u64.wrap (a1)) 500)) t168 t169 _ ?side1 ?side2 A16.out).mono ?_); (case side1 => repeat (first | exact (by repeat (first | (with_reducible exact HR163.out) | (with_reducible refine Kd.C_alloc ?_ _) | (with_reducible refine Kd.C_drewN ?_ _) | (with_reducible refine Kd.C_drew ?_) | exact HR163.out)) | (with_reducible refine Kd.C_alloc ?_ _) | (with_reducible refine Kd.C_drewN ?_ _) | (with_reducible refine Kd.C_drew ?_))); (case side2 => exact HC163.out); rintro e w28 ⟨v170, rfl, ho0, hb⟩; refine ⟨_, rfl, ?_⟩; have n0_ := Aside0.mk (Kd.R_elder' (by (with_reducible repeat (first | apply Kd.R_alloc | apply Kd.R_drewN | apply Kd.R_drew)); exact HO156.out) (Kd.R_base ho0) hb); have n1_ := Aside0.mk (Kd.R_elder' (by (with_reducible repeat (first | apply Kd.R_alloc | apply Kd.R_drewN | apply Kd.R_drew)); exact HO159.out) (Kd.R_base ho0) hb); have n2_ := Aside0.mk (Kd.R_elder' (by (with_reducible repeat (first | apply Kd.R_alloc | apply Kd.R_drewN | apply Kd.R_drew)); exact HO167.out) (Kd.R_base ho0) hb); have n3_ := Aside0.mk (Kd.R_lower (Kd.R_new' (Kd.R_new' (Kd.R_new' ho0 (Kd.R_lt (by (with_reducible repeat (first | apply Kd.R_alloc | apply Kd.R_drewN | apply Kd.R_drew)); exact HO156.out))) (Kd.R_lt (by (with_reducible repeat (first | apply Kd.R_alloc | apply Kd.R_drewN | apply Kd.R_drew)); exact HO159.out))) (Kd.R_lt (by (with_reducible repeat (first | apply Kd.R_alloc | apply Kd.R_drewN | apply Kd.R_drew)); exact HO167.out))) (below_size (by repeat (first | (with_reducible first | exact HB.out | apply below_alloc | apply pw_below_drewN | apply below_drew1) | exact HB.out)))); have n4_ := Aside0.mk (Kd.C_below (by repeat (first | (with_reducible exact HR163.out) | (with_reducible refine Kd.C_alloc ?_ _) | (with_reducible refine Kd.C_drewN ?_ _) | (with_reducible refine Kd.C_drew ?_) | exact HR163.out)) hb); have n5_ := Aside0.mk (below_step (by repeat (first | (with_reducible first | exact HB.out | apply below_alloc | apply pw_below_drewN | apply below_drew1) | exact HB.out)) hb); clear HO156; clear HO159; clear HO167; clear HR163; clear HB; have HO156 := n0_; have HO159 := n1_; have HO167 := n2_; have HO171 := n3_; have HR163 := n4_; have HB := n5_; clear n0_ n1_ n2_ n3_ n4_ n5_; (try clear hb); (try clear hb2); (try clear hk); (try clear hi); (try clear ho0)) | ((with_reducible refine gate_callee (f := 25) rfl ?_); refine goesL_ (some 50) rfl rfl Tryd.func25 (by kernel_rfl) rfl #[.slice Ao26 y160.length co26, .slice Ao26 y160.length co26] rfl (by (try simp only [List.map_toArray, List.map_cons, List.map_nil]); first | done | rfl | (simp only [List.length_drop, List.length_take]; rfl)) ?_; (with_reducible refine (mask_Union.calls kj2 _ _ y160 _ _ y160 t172 _ ?side1 ?side2 ?side3 ?side4 A17.out).mono ?_); (case side1 => repeat (first | exact (by repeat (first | (with_reducible exact HR163.out) | (with_reducible refine Kd.C_alloc ?_ _) | (with_reducible refine Kd.C_drewN ?_ _) | (with_reducible refine Kd.C_drew ?_) | exact HR163.out)) | (with_reducible refine Kd.C_alloc ?_ _) | (with_reducible refine Kd.C_drewN ?_ _) | (with_reducible refine Kd.C_drew ?_))); (case side2 => exact HC163.out); (case side3 => repeat (first | exact (by repeat (first | (with_reducible exact HR163.out) | (with_reducible refine Kd.C_alloc ?_ _) | (with_reducible refine Kd.C_drewN ?_ _) | (with_reducible refine Kd.C_drew ?_) | exact HR163.out)) | (with_reducible refine Kd.C_alloc ?_ _) | (with_reducible refine Kd.C_drewN ?_ _) | (with_reducible refine Kd.C_drew ?_))); (case side4 => exact HC163.out); rintro e w29 ⟨v173, rfl, ho0, hb⟩; refine ⟨_, rfl, ?_⟩; have n0_ := Aside0.mk (Kd.R_elder' (by (with_reducible repeat (first | apply Kd.R_alloc | apply Kd.R_drewN | apply Kd.R_drew)); exact HO156.out) (Kd.R_base ho0) hb); have n1_ := Aside0.mk (Kd.R_elder' (by (with_reducible repeat (first | apply Kd.R_alloc | apply Kd.R_drewN | apply Kd.R_drew)); exact HO159.out) (Kd.R_base ho0) hb); have n2_ := Aside0.mk (Kd.R_elder' (by (with_reducible repeat (first | apply Kd.R_alloc | apply Kd.R_drewN | apply Kd.R_drew)); exact HO167.out) (Kd.R_base ho0) hb); have n3_ := Aside0.mk (Kd.R_elder' (by (with_reducible repeat (first | apply Kd.R_alloc | apply Kd.R_drewN | apply Kd.R_drew)); exact HO171.out) (Kd.R_base ho0) hb); have n4_ := Aside0.mk (Kd.R_lower (Kd.R_new' (Kd.R_new' (Kd.R_new' (Kd.R_new' ho0 (Kd.R_lt (by (with_reducible repeat (first | apply Kd.R_alloc | apply Kd.R_drewN | apply Kd.R_drew)); exact HO156.out))) (Kd.R_lt (by (with_reducible repeat (first | apply Kd.R_alloc | apply Kd.R_drewN | apply Kd.R_drew)); exact HO159.out))) (Kd.R_lt (by (with_reducible repeat (first | apply Kd.R_alloc | apply Kd.R_drewN | apply Kd.R_drew)); exact HO167.out))) (Kd.R_lt (by (with_reducible repeat (first | apply Kd.R_alloc | apply Kd.R_drewN | apply Kd.R_drew)); exact HO171.out))) (below_size (by repeat (first | (with_reducible first | exact HB.out | apply below_alloc | apply pw_below_drewN | apply below_drew1) | exact HB.out)))); have n5_ := Aside0.mk (Kd.C_below (by repeat (first | (with_reducible exact HR163.out) | (with_reducible refine Kd.C_alloc ?_ _) | (with_reducible refine Kd.C_drewN ?_ _) | (with_reducible refine Kd.C_drew ?_) | exact HR163.out)) hb); have n6_ := Aside0.mk (below_step (by repeat (first | (with_reducible first | exact HB.out | apply below_alloc | apply pw_below_drewN | apply below_drew1) | exact HB.out)) hb); clear HO156; clear HO159; clear HO167; clear HO171; clear HR163; clear HB; have HO156 := n0_; have HO159 := n1_; have HO167 := n2_; have HO171 := n3_; have HO174 := n4_; have HR163 := n5_; have HB := n6_; clear n0_ n1_ n2_ n3_ n4_ n5_ n6_; (try clear hb); (try clear hb2); (try clear hk); (try clear hi); (try clear ho0)))
                go_loopg [12] kj2 (fun kq v12 w' => ∃ (x7_2 : List Int) (x12_2 : Int), v12 = .int .i64 x12_2 ∧ Aside0 (windrowlaw04_MaskKeeps.l0 kq l0 y157 x7_2 t168 t172 x12_2 = some r) ∧ Aside0 (kq ≤ kj2) ∧ Aside0 (Kd.R (Kd.int .u64) 34 w' w.heap.size (fun k_ => some k_ ≠ (v166 : Value).ownBlock ∧ some k_ ≠ (v170 : Value).ownBlock ∧ some k_ ≠ (v173 : Value).ownBlock) (.slice Ao26 y157.length co26) y157) ∧ Aside0 (Kd.R (Kd.int .u64) 34 w' w.heap.size (fun k_ => some k_ ≠ ((.slice Ao26 y157.length co26) : Value).ownBlock ∧ some k_ ≠ (v170 : Value).ownBlock ∧ some k_ ≠ (v173 : Value).ownBlock) v166 x7_2) ∧ Aside0 (Kd.R (Kd.int .u64) 34 w' w.heap.size (fun k_ => some k_ ≠ ((.slice Ao26 y157.length co26) : Value).ownBlock ∧ some k_ ≠ (v166 : Value).ownBlock ∧ some k_ ≠ (v173 : Value).ownBlock) v170 t168) ∧ Aside0 (Kd.R (Kd.int .u64) 34 w' w.heap.size (fun k_ => some k_ ≠ ((.slice Ao26 y157.length co26) : Value).ownBlock ∧ some k_ ≠ (v166 : Value).ownBlock ∧ some k_ ≠ (v170 : Value).ownBlock) v173 t172) ∧ Aside0 (Below w.heap.size w w'))
                case atStart => exact ⟨(t164), (0), (by first | rfl | (simp; done) | (simp [*]; done)), H', ⟨Nat.le_refl _⟩, ⟨by (with_reducible repeat (first | apply Kd.R_alloc | apply Kd.R_drewN | apply Kd.R_drew)); exact Kd.R_mono HO159.out (fun _ hk => ⟨hk.1.1.2, ⟨hk.1.2, hk.2⟩⟩)⟩, ⟨by (with_reducible repeat (first | apply Kd.R_alloc | apply Kd.R_drewN | apply Kd.R_drew)); exact Kd.R_mono HO167.out (fun _ hk => ⟨hk.1.1.2, ⟨hk.1.2, hk.2⟩⟩)⟩, ⟨by (with_reducible repeat (first | apply Kd.R_alloc | apply Kd.R_drewN | apply Kd.R_drew)); exact Kd.R_mono HO171.out (fun _ hk => ⟨hk.1.1.2, ⟨hk.1.2, hk.2⟩⟩)⟩, ⟨by (with_reducible repeat (first | apply Kd.R_alloc | apply Kd.R_drewN | apply Kd.R_drew)); exact Kd.R_mono HO174.out (fun _ hk => ⟨hk.1.1.2, ⟨hk.1.2, hk.2⟩⟩)⟩, ⟨by repeat (first | (with_reducible first | exact HB.out | apply below_alloc | apply pw_below_drewN | apply below_drew1) | exact HB.out)⟩⟩
                case round =>
                  clear H'
                  try clear c1
                  try clear c2
                  try clear p2
                  try clear q2
                  try clear c3
                  try clear c5
                  try clear p6
                  try clear c7
                  try clear c8
                  try clear c11
                  try clear c12
                  try clear c13
                  try clear c13b0
                  try clear c13b1
                  try clear c14
                  try clear c14b0
                  try clear c14b1
                  try clear c25
                  try clear q25
                  try clear p2
                  try clear q25
                  obtain ⟨x7_2, x12_2, rfl, HA, HK2, HO_5, HO_7, HO_9, HO_11, HB⟩ := hrel
                  cases gk with
                  | zero => exact absurd HA.out (by simp [windrowlaw04_MaskKeeps.l0])
                  | succ k2 =>
                    have H := HA.out
                    clear HA
                    simp only [windrowlaw04_MaskKeeps.l0] at H
                    by_cases c30 : x12_2 < (x7_2.length : Int)
                    · rw [if_pos c30] at H
                      have c30b0 : decide (x12_2 < (x7_2.length : Int)) = true := decide_eq_true c30
                      clear c30
                      by_cases c31 : 0 ≤ x12_2
                      · rw [if_pos c31] at H
                        have c31b0 : decide (0 ≤ x12_2) = true := decide_eq_true c31
                        clear c31
                        obtain ⟨y175, hy175⟩ : ∃ y_ : List Int, y_ = (x7_2.set (x12_2 : Int).toNat 1) := ⟨_, rfl⟩
                        replace H : (windrowlaw04_MaskKeeps.l0 k2 l0 y157 y175 t168 t172 (wrap64 (x12_2 + 1))) = some r := by first | (rw [hy175]; with_reducible exact H) | (have H2_ := (Option.bind_some _ _).symm.trans H; rw [hy175]; with_reducible exact H2_) | (have H2_ := (Option.bind_some _ _).symm.trans H; with_reducible exact H2_) | with_reducible exact H | (rw [hy175]; exact H) | exact H
                        have Ny175 := Aside0.mk hy175
                        clear hy175
                        have H' := Aside0.mk H
                        clear H
                        obtain ⟨Ao33, co33, eo33⟩ := Kd.R_slice HO_7.out
                        subst eo33
                        have p32 : 0 ≤ (x12_2 : Int) := of_decide_eq_true (by first | (with_reducible assumption) | assumption)
                        have q32 : (x12_2 : Int) < ((x7_2.length : Int) : Int) := of_decide_eq_true (by first | (with_reducible assumption) | assumption)
                        obtain ⟨go32, co32, eo32, gb32, gl32, cl32, HG32⟩ := Kd.R_form HO_7.out (by omega)
                        (first | cases eo32 | (injection eo32 with ea_ en_ ec_; (first | subst ea_ | (injection ea_ with ea_; subst ea_)); subst ec_; clear en_))
                        have GB32 := Aside0.mk gb32
                        have GG32 := Aside0.mk HG32
                        clear gb32 gl32 HG32
                        obtain ⟨hx32_0, hf32_0⟩ := Kd.R_celln 0 HO_7.out (x12_2 : Int) p32 q32
                        replace p32 := eq_true p32
                        replace q32 := eq_true q32
                        have HP34 := Kd.R_putg HO_7.out (x12_2 : Int) 1
                        go_wp2_with (first | ((with_reducible refine gate_store (t := 34) (p := 59) rfl ?_); refine store_event (t := 34) (p := 59) (v := ?vo_w35) (w1 := (wr.setCell ⟨go32, (x12_2 : Int).toNat, none⟩ (.int .u64 1))) ?hg ?ho ?hn ?hr ?_; (case ho => rfl); (case hg => rfl); (case hn => rfl); (case hr => first | (go_simp; done) | (go_simp; rfl)); intro w35 hw; have hg : wr.grownBy w35 (some go32) := (by rw [hw]; exact HP34.2); have hp_ : Kd.R (Kd.int .u64) 34 w35 w.heap.size (fun k_ => some k_ ≠ (.slice Ao26 y157.length co26 : Value).ownBlock ∧ some k_ ≠ (v170 : Value).ownBlock ∧ some k_ ≠ (v173 : Value).ownBlock) (.slice (some ⟨go32, 0, none⟩) x7_2.length co33) y175 := (by rw [hw, Ny175.out]; exact HP34.1); clear HP34; have n0_ := Aside0.mk (Kd.R_after (v := (.slice (some ⟨go32, 0, none⟩) x7_2.length co33)) (v1 := (.slice (some ⟨go32, 0, none⟩) x7_2.length co33)) (ok := (fun k_ => some k_ ≠ (v170 : Value).ownBlock ∧ some k_ ≠ (v173 : Value).ownBlock)) (by (with_reducible repeat (first | apply Kd.R_alloc | apply Kd.R_drewN | apply Kd.R_drew)); exact Kd.R_mono HO_5.out (fun _ hk => ⟨⟨hk.2.1, hk.2.2⟩, hk.1⟩)) hg (.inl rfl)); have n1_ := Aside0.mk (hp_); have n2_ := Aside0.mk (Kd.R_after (v := (.slice (some ⟨go32, 0, none⟩) x7_2.length co33)) (v1 := (.slice (some ⟨go32, 0, none⟩) x7_2.length co33)) (ok := (fun k_ => some k_ ≠ (.slice Ao26 y157.length co26 : Value).ownBlock ∧ some k_ ≠ (v173 : Value).ownBlock)) (by (with_reducible repeat (first | apply Kd.R_alloc | apply Kd.R_drewN | apply Kd.R_drew)); exact Kd.R_mono HO_9.out (fun _ hk => ⟨⟨hk.1, hk.2.2⟩, hk.2.1⟩)) hg (.inl rfl)); have n3_ := Aside0.mk (Kd.R_after (v := (.slice (some ⟨go32, 0, none⟩) x7_2.length co33)) (v1 := (.slice (some ⟨go32, 0, none⟩) x7_2.length co33)) (ok := (fun k_ => some k_ ≠ (.slice Ao26 y157.length co26 : Value).ownBlock ∧ some k_ ≠ (v170 : Value).ownBlock)) (by (with_reducible repeat (first | apply Kd.R_alloc | apply Kd.R_drewN | apply Kd.R_drew)); exact Kd.R_mono HO_11.out (fun _ hk => ⟨⟨hk.1, hk.2.2⟩, hk.2.1⟩)) hg (.inl rfl)); have n4_ := Aside0.mk ((by rw [hw]; exact below_set (HB.out) GB32.out : Below w.heap.size w w35)); clear HO_5; clear HO_7; clear HO_9; clear HO_11; clear HB; have HO_5 := n0_; have HO_7 := n1_; have HO_9 := n2_; have HO_11 := n3_; have HB := n4_; clear n0_ n1_ n2_ n3_ n4_; clear hg hw hp_))
                        go_roundg k2
                        case measure => have := HJ2.out; have := HK2.out; omega
                        case rel => exact ⟨(y175), (wrap64 (x12_2 + 1)), (by first | rfl | (simp; done) | (simp [*]; done)), H', ⟨by have := HJ2.out; have := HK2.out; omega⟩, ⟨by (with_reducible repeat (first | apply Kd.R_alloc | apply Kd.R_drewN | apply Kd.R_drew)); exact Kd.R_mono HO_5.out (fun _ hk => ⟨hk.2, ⟨hk.1.1, hk.1.2⟩⟩)⟩, ⟨by (with_reducible repeat (first | apply Kd.R_alloc | apply Kd.R_drewN | apply Kd.R_drew)); exact HO_7.out⟩, ⟨by (with_reducible repeat (first | apply Kd.R_alloc | apply Kd.R_drewN | apply Kd.R_drew)); exact Kd.R_mono HO_9.out (fun _ hk => ⟨hk.1.1, ⟨hk.2, hk.1.2⟩⟩)⟩, ⟨by (with_reducible repeat (first | apply Kd.R_alloc | apply Kd.R_drewN | apply Kd.R_drew)); exact Kd.R_mono HO_11.out (fun _ hk => ⟨hk.1.1, ⟨hk.2, hk.1.2⟩⟩)⟩, ⟨by repeat (first | (with_reducible first | exact HB.out | apply below_alloc | apply pw_below_drewN | apply below_drew1) | exact HB.out)⟩⟩
                      · rw [if_neg c31] at H
                        exact absurd H (by simp)
                    · rw [if_neg c30] at H
                      have c30b0 : decide (x12_2 < (x7_2.length : Int)) = false := decide_eq_false c30
                      clear c30
                      have H' := Aside0.mk H
                      clear H
                      obtain ⟨Ao36, co36, eo36⟩ := Kd.R_slice HO_7.out
                      subst eo36
                      go_wp2
                      go_loopg [13] k2 (fun kq v13 w' => ∃ (x9_3 : List Int) (x13_3 : Int), v13 = .int .i64 x13_3 ∧ Aside0 (windrowlaw04_MaskKeeps.l1 kq l0 y157 x9_3 t172 x13_3 = some r) ∧ Aside0 (kq ≤ k2) ∧ Aside0 (Kd.R (Kd.int .u64) 34 w' w.heap.size (fun k_ => some k_ ≠ (v170 : Value).ownBlock ∧ some k_ ≠ (v173 : Value).ownBlock) (.slice Ao26 y157.length co26) y157) ∧ Aside0 (Kd.R (Kd.int .u64) 34 w' w.heap.size (fun k_ => some k_ ≠ ((.slice Ao26 y157.length co26) : Value).ownBlock ∧ some k_ ≠ (v173 : Value).ownBlock) v170 x9_3) ∧ Aside0 (Kd.R (Kd.int .u64) 34 w' w.heap.size (fun k_ => some k_ ≠ ((.slice Ao26 y157.length co26) : Value).ownBlock ∧ some k_ ≠ (v170 : Value).ownBlock) v173 t172) ∧ Aside0 (Below w.heap.size w w'))
                      case atStart => exact ⟨(t168), (0), (by first | rfl | (simp; done) | (simp [*]; done)), H', ⟨Nat.le_refl _⟩, ⟨by (with_reducible repeat (first | apply Kd.R_alloc | apply Kd.R_drewN | apply Kd.R_drew)); exact Kd.R_mono HO_5.out (fun _ hk => ⟨hk.2.1, hk.2.2⟩)⟩, ⟨by (with_reducible repeat (first | apply Kd.R_alloc | apply Kd.R_drewN | apply Kd.R_drew)); exact Kd.R_mono HO_9.out (fun _ hk => ⟨hk.1, hk.2.2⟩)⟩, ⟨by (with_reducible repeat (first | apply Kd.R_alloc | apply Kd.R_drewN | apply Kd.R_drew)); exact Kd.R_mono HO_11.out (fun _ hk => ⟨hk.1, hk.2.2⟩)⟩, ⟨by repeat (first | (with_reducible first | exact HB.out | apply below_alloc | apply pw_below_drewN | apply below_drew1) | exact HB.out)⟩⟩
                      case round =>
                        clear H'
                        try clear c1
                        try clear c2
                        try clear p2
                        try clear q2
                        try clear c3
                        try clear p3
                        try clear q3
                        try clear hx3
                        try clear hf3
                        try clear c5
                        try clear p6
                        try clear c7
                        try clear c8
                        try clear c11
                        try clear c12
                        try clear c13
                        try clear c13b0
                        try clear c13b1
                        try clear c14
                        try clear c14b0
                        try clear c14b1
                        try clear c25
                        try clear q25
                        try clear c30
                        try clear c30b0
                        try clear c31
                        try clear c31b0
                        try clear p32
                        try clear q32
                        try clear hx32
                        try clear hf32
                        try clear hx32_0
                        try clear p2
                        try clear p32
                        try clear p6
                        try clear q2
                        try clear q25
                        try clear q32
                        obtain ⟨x9_3, x13_3, rfl, HA, HK3, HO_5, HO_9, HO_11, HB⟩ := hrel
                        cases gk with
                        | zero => exact absurd HA.out (by simp [windrowlaw04_MaskKeeps.l1])
                        | succ k3 =>
                          have H := HA.out
                          clear HA
                          simp only [windrowlaw04_MaskKeeps.l1] at H
                          by_cases c37 : x13_3 < (x9_3.length : Int)
                          · rw [if_pos c37] at H
                            have c37b0 : decide (x13_3 < (x9_3.length : Int)) = true := decide_eq_true c37
                            clear c37
                            by_cases c38 : 0 ≤ x13_3
                            · rw [if_pos c38] at H
                              have c38b0 : decide (0 ≤ x13_3) = true := decide_eq_true c38
                              clear c38
                              obtain ⟨y176, hy176⟩ : ∃ y_ : List Int, y_ = (x9_3.set (x13_3 : Int).toNat 2) := ⟨_, rfl⟩
                              replace H : (windrowlaw04_MaskKeeps.l1 k3 l0 y157 y176 t172 (wrap64 (x13_3 + 1))) = some r := by first | (rw [hy176]; with_reducible exact H) | (have H2_ := (Option.bind_some _ _).symm.trans H; rw [hy176]; with_reducible exact H2_) | (have H2_ := (Option.bind_some _ _).symm.trans H; with_reducible exact H2_) | with_reducible exact H | (rw [hy176]; exact H) | exact H
                              have Ny176 := Aside0.mk hy176
                              clear hy176
                              have H' := Aside0.mk H
                              clear H
                              obtain ⟨Ao40, co40, eo40⟩ := Kd.R_slice HO_9.out
                              subst eo40
                              have p39 : 0 ≤ (x13_3 : Int) := of_decide_eq_true (by first | (with_reducible assumption) | assumption)
                              have q39 : (x13_3 : Int) < ((x9_3.length : Int) : Int) := of_decide_eq_true (by first | (with_reducible assumption) | assumption)
                              obtain ⟨go39, co39, eo39, gb39, gl39, cl39, HG39⟩ := Kd.R_form HO_9.out (by omega)
                              (first | cases eo39 | (injection eo39 with ea_ en_ ec_; (first | subst ea_ | (injection ea_ with ea_; subst ea_)); subst ec_; clear en_))
                              have GB39 := Aside0.mk gb39
                              have GG39 := Aside0.mk HG39
                              clear gb39 gl39 HG39
                              obtain ⟨hx39_0, hf39_0⟩ := Kd.R_celln 0 HO_9.out (x13_3 : Int) p39 q39
                              replace p39 := eq_true p39
                              replace q39 := eq_true q39
                              have HP41 := Kd.R_putg HO_9.out (x13_3 : Int) 2
                              go_wp2_with (first | ((with_reducible refine gate_store (t := 34) (p := 68) rfl ?_); refine store_event (t := 34) (p := 68) (v := ?vo_w42) (w1 := (wr.setCell ⟨go39, (x13_3 : Int).toNat, none⟩ (.int .u64 2))) ?hg ?ho ?hn ?hr ?_; (case ho => rfl); (case hg => rfl); (case hn => rfl); (case hr => first | (go_simp; done) | (go_simp; rfl)); intro w42 hw; have hg : wr.grownBy w42 (some go39) := (by rw [hw]; exact HP41.2); have hp_ : Kd.R (Kd.int .u64) 34 w42 w.heap.size (fun k_ => some k_ ≠ (.slice Ao26 y157.length co26 : Value).ownBlock ∧ some k_ ≠ (v173 : Value).ownBlock) (.slice (some ⟨go39, 0, none⟩) x9_3.length co40) y176 := (by rw [hw, Ny176.out]; exact HP41.1); clear HP41; have n0_ := Aside0.mk (Kd.R_after (v := (.slice (some ⟨go39, 0, none⟩) x9_3.length co40)) (v1 := (.slice (some ⟨go39, 0, none⟩) x9_3.length co40)) (ok := (fun k_ => some k_ ≠ (v173 : Value).ownBlock)) (by (with_reducible repeat (first | apply Kd.R_alloc | apply Kd.R_drewN | apply Kd.R_drew)); exact Kd.R_mono HO_5.out (fun _ hk => ⟨hk.2, hk.1⟩)) hg (.inl rfl)); have n1_ := Aside0.mk (hp_); have n2_ := Aside0.mk (Kd.R_after (v := (.slice (some ⟨go39, 0, none⟩) x9_3.length co40)) (v1 := (.slice (some ⟨go39, 0, none⟩) x9_3.length co40)) (ok := (fun k_ => some k_ ≠ (.slice Ao26 y157.length co26 : Value).ownBlock)) (by (with_reducible repeat (first | apply Kd.R_alloc | apply Kd.R_drewN | apply Kd.R_drew)); exact HO_11.out) hg (.inl rfl)); have n3_ := Aside0.mk ((by rw [hw]; exact below_set (HB.out) GB39.out : Below w.heap.size w w42)); clear HO_5; clear HO_9; clear HO_11; clear HB; have HO_5 := n0_; have HO_9 := n1_; have HO_11 := n2_; have HB := n3_; clear n0_ n1_ n2_ n3_; clear hg hw hp_))
                              go_roundg k3
                              case measure => have := HJ2.out; have := HK2.out; have := HK3.out; omega
                              case rel => exact ⟨(y176), (wrap64 (x13_3 + 1)), (by first | rfl | (simp; done) | (simp [*]; done)), H', ⟨by have := HJ2.out; have := HK2.out; have := HK3.out; omega⟩, ⟨by (with_reducible repeat (first | apply Kd.R_alloc | apply Kd.R_drewN | apply Kd.R_drew)); exact Kd.R_mono HO_5.out (fun _ hk => ⟨hk.2, hk.1⟩)⟩, ⟨by (with_reducible repeat (first | apply Kd.R_alloc | apply Kd.R_drewN | apply Kd.R_drew)); exact HO_9.out⟩, ⟨by (with_reducible repeat (first | apply Kd.R_alloc | apply Kd.R_drewN | apply Kd.R_drew)); exact HO_11.out⟩, ⟨by repeat (first | (with_reducible first | exact HB.out | apply below_alloc | apply pw_below_drewN | apply below_drew1) | exact HB.out)⟩⟩
                            · rw [if_neg c38] at H
                              exact absurd H (by simp)
                          · rw [if_neg c37] at H
                            have c37b0 : decide (x13_3 < (x9_3.length : Int)) = false := decide_eq_false c37
                            clear c37
                            have H' := Aside0.mk H
                            clear H
                            obtain ⟨Ao43, co43, eo43⟩ := Kd.R_slice HO_9.out
                            subst eo43
                            go_wp2
                            go_loopg [14] k3 (fun kq v14 w' => ∃ (x11_4 : List Int) (x14_4 : Int), v14 = .int .i64 x14_4 ∧ Aside0 (windrowlaw04_MaskKeeps.l2 kq l0 y157 x11_4 x14_4 = some r) ∧ Aside0 (kq ≤ k3) ∧ Aside0 (Kd.R (Kd.int .u64) 34 w' w.heap.size (fun k_ => some k_ ≠ (v173 : Value).ownBlock) (.slice Ao26 y157.length co26) y157) ∧ Aside0 (Kd.R (Kd.int .u64) 34 w' w.heap.size (fun k_ => some k_ ≠ ((.slice Ao26 y157.length co26) : Value).ownBlock) v173 x11_4) ∧ Aside0 (Below w.heap.size w w'))
                            case atStart => exact ⟨(t172), (0), (by first | rfl | (simp; done) | (simp [*]; done)), H', ⟨Nat.le_refl _⟩, ⟨by (with_reducible repeat (first | apply Kd.R_alloc | apply Kd.R_drewN | apply Kd.R_drew)); exact Kd.R_mono HO_5.out (fun _ hk => hk.2)⟩, ⟨by (with_reducible repeat (first | apply Kd.R_alloc | apply Kd.R_drewN | apply Kd.R_drew)); exact Kd.R_mono HO_11.out (fun _ hk => hk.1)⟩, ⟨by repeat (first | (with_reducible first | exact HB.out | apply below_alloc | apply pw_below_drewN | apply below_drew1) | exact HB.out)⟩⟩
                            case round =>
                              clear H'
                              try clear c1
                              try clear c2
                              try clear p2
                              try clear q2
                              try clear c3
                              try clear p3
                              try clear q3
                              try clear hx3
                              try clear hf3
                              try clear c5
                              try clear p6
                              try clear c7
                              try clear c8
                              try clear c11
                              try clear c12
                              try clear c13
                              try clear c13b0
                              try clear c13b1
                              try clear c14
                              try clear c14b0
                              try clear c14b1
                              try clear c25
                              try clear q25
                              try clear c30
                              try clear c30b0
                              try clear c31
                              try clear c31b0
                              try clear p32
                              try clear q32
                              try clear hx32
                              try clear hf32
                              try clear c37
                              try clear c37b0
                              try clear c38
                              try clear c38b0
                              try clear p39
                              try clear q39
                              try clear hx39
                              try clear hf39
                              try clear hx32_0
                              try clear hx39_0
                              try clear p2
                              try clear p3
                              try clear p32
                              try clear p39
                              try clear p6
                              try clear q2
                              try clear q25
                              try clear q3
                              try clear q32
                              try clear q39
                              obtain ⟨x11_4, x14_4, rfl, HA, HK4, HO_5, HO_11, HB⟩ := hrel
                              cases gk with
                              | zero => exact absurd HA.out (by simp [windrowlaw04_MaskKeeps.l2])
                              | succ k4 =>
                                have H := HA.out
                                clear HA
                                simp only [windrowlaw04_MaskKeeps.l2] at H
                                by_cases c44 : x14_4 < (x11_4.length : Int)
                                · rw [if_pos c44] at H
                                  have c44b0 : decide (x14_4 < (x11_4.length : Int)) = true := decide_eq_true c44
                                  clear c44
                                  by_cases c45 : 0 ≤ x14_4
                                  · rw [if_pos c45] at H
                                    have c45b0 : decide (0 ≤ x14_4) = true := decide_eq_true c45
                                    clear c45
                                    obtain ⟨y177, hy177⟩ : ∃ y_ : List Int, y_ = (x11_4.set (x14_4 : Int).toNat 3) := ⟨_, rfl⟩
                                    replace H : (windrowlaw04_MaskKeeps.l2 k4 l0 y157 y177 (wrap64 (x14_4 + 1))) = some r := by first | (rw [hy177]; with_reducible exact H) | (have H2_ := (Option.bind_some _ _).symm.trans H; rw [hy177]; with_reducible exact H2_) | (have H2_ := (Option.bind_some _ _).symm.trans H; with_reducible exact H2_) | with_reducible exact H | (rw [hy177]; exact H) | exact H
                                    have Ny177 := Aside0.mk hy177
                                    clear hy177
                                    have H' := Aside0.mk H
                                    clear H
                                    obtain ⟨Ao47, co47, eo47⟩ := Kd.R_slice HO_11.out
                                    subst eo47
                                    have p46 : 0 ≤ (x14_4 : Int) := of_decide_eq_true (by first | (with_reducible assumption) | assumption)
                                    have q46 : (x14_4 : Int) < ((x11_4.length : Int) : Int) := of_decide_eq_true (by first | (with_reducible assumption) | assumption)
                                    obtain ⟨go46, co46, eo46, gb46, gl46, cl46, HG46⟩ := Kd.R_form HO_11.out (by omega)
                                    (first | cases eo46 | (injection eo46 with ea_ en_ ec_; (first | subst ea_ | (injection ea_ with ea_; subst ea_)); subst ec_; clear en_))
                                    have GB46 := Aside0.mk gb46
                                    have GG46 := Aside0.mk HG46
                                    clear gb46 gl46 HG46
                                    obtain ⟨hx46_0, hf46_0⟩ := Kd.R_celln 0 HO_11.out (x14_4 : Int) p46 q46
                                    replace p46 := eq_true p46
                                    replace q46 := eq_true q46
                                    have HP48 := Kd.R_putg HO_11.out (x14_4 : Int) 3
                                    go_wp2_with (first | ((with_reducible refine gate_store (t := 34) (p := 77) rfl ?_); refine store_event (t := 34) (p := 77) (v := ?vo_w49) (w1 := (wr.setCell ⟨go46, (x14_4 : Int).toNat, none⟩ (.int .u64 3))) ?hg ?ho ?hn ?hr ?_; (case ho => rfl); (case hg => rfl); (case hn => rfl); (case hr => first | (go_simp; done) | (go_simp; rfl)); intro w49 hw; have hg : wr.grownBy w49 (some go46) := (by rw [hw]; exact HP48.2); have hp_ : Kd.R (Kd.int .u64) 34 w49 w.heap.size (fun k_ => some k_ ≠ (.slice Ao26 y157.length co26 : Value).ownBlock) (.slice (some ⟨go46, 0, none⟩) x11_4.length co47) y177 := (by rw [hw, Ny177.out]; exact HP48.1); clear HP48; have n0_ := Aside0.mk (Kd.R_after (v := (.slice (some ⟨go46, 0, none⟩) x11_4.length co47)) (v1 := (.slice (some ⟨go46, 0, none⟩) x11_4.length co47)) (ok := (fun _ => True)) (by (with_reducible repeat (first | apply Kd.R_alloc | apply Kd.R_drewN | apply Kd.R_drew)); exact Kd.R_mono HO_5.out (fun _ hk => ⟨trivial, hk⟩)) hg (.inl rfl)); have n1_ := Aside0.mk (hp_); have n2_ := Aside0.mk ((by rw [hw]; exact below_set (HB.out) GB46.out : Below w.heap.size w w49)); clear HO_5; clear HO_11; clear HB; have HO_5 := n0_; have HO_11 := n1_; have HB := n2_; clear n0_ n1_ n2_; clear hg hw hp_))
                                    go_roundg k4
                                    case measure => have := HJ2.out; have := HK2.out; have := HK3.out; have := HK4.out; omega
                                    case rel => exact ⟨(y177), (wrap64 (x14_4 + 1)), (by first | rfl | (simp; done) | (simp [*]; done)), H', ⟨by have := HJ2.out; have := HK2.out; have := HK3.out; have := HK4.out; omega⟩, ⟨by (with_reducible repeat (first | apply Kd.R_alloc | apply Kd.R_drewN | apply Kd.R_drew)); exact Kd.R_mono HO_5.out (fun _ hk => hk.2)⟩, ⟨by (with_reducible repeat (first | apply Kd.R_alloc | apply Kd.R_drewN | apply Kd.R_drew)); exact HO_11.out⟩, ⟨by repeat (first | (with_reducible first | exact HB.out | apply below_alloc | apply pw_below_drewN | apply below_drew1) | exact HB.out)⟩⟩
                                  · rw [if_neg c45] at H
                                    exact absurd H (by simp)
                                · rw [if_neg c44] at H
                                  have c44b0 : decide (x14_4 < (x11_4.length : Int)) = false := decide_eq_false c44
                                  clear c44
                                  by_cases c50 : 0 ≤ (l0.length : Int)
                                  · rw [if_pos c50] at H
                                    have c50b0 := eq_true c50
                                    have c50b1 : decide (0 ≤ (l0.length : Int)) = true := decide_eq_true c50
                                    clear c50
                                    by_cases c51 : (l0.length : Int) ≤ (y157.length : Int)
                                    · rw [if_pos c51] at H
                                      have c51b0 := eq_true c51
                                      have c51b1 : decide ((l0.length : Int) ≤ (y157.length : Int)) = true := decide_eq_true c51
                                      clear c51
                                      obtain ⟨y178, hy178⟩ : ∃ y_ : List Int, y_ = (y157.take ((l0.length : Int) : Int).toNat) := ⟨_, rfl⟩
                                      replace H : ((windrowref01_Words.f k4 y178 l0).bind fun t182 => (if t182 = true then (if (l0.length : Int) < (y157.length : Int) then (if (rd y157 (l0.length : Int)) = 71 then (if 0 ≤ (wrap64 ((l0.length : Int) + 1)) then (if (wrap64 ((l0.length : Int) + 1)) < (y157.length : Int) then (some ((rd y157 (wrap64 ((l0.length : Int) + 1))) == 72)) else (none)) else (none)) else (some false)) else (none)) else (some false))) = some r := by first | (rw [hy178]; with_reducible exact H) | (have H2_ := (Option.bind_some _ _).symm.trans H; rw [hy178]; with_reducible exact H2_) | (have H2_ := (Option.bind_some _ _).symm.trans H; with_reducible exact H2_) | with_reducible exact H | (rw [hy178]; exact H) | exact H
                                      have Ny178 := Aside0.mk hy178
                                      clear hy178
                                      obtain rfl : y178 = y160 := Ny178.out.trans Ny160.out.symm
                                      replace H := Option.bind_eq_some_iff.mp H
                                      obtain ⟨t182, A520, H⟩ := H
                                      replace H : (if t182 = true then (if (l0.length : Int) < (y157.length : Int) then (if (rd y157 (l0.length : Int)) = 71 then (if 0 ≤ (wrap64 ((l0.length : Int) + 1)) then (if (wrap64 ((l0.length : Int) + 1)) < (y157.length : Int) then (some ((rd y157 (wrap64 ((l0.length : Int) + 1))) == 72)) else (none)) else (none)) else (some false)) else (none)) else (some false)) = some r := H
                                      have A52 := Aside0.mk A520
                                      clear A520
                                      by_cases c53 : t182 = true
                                      · subst c53
                                        have H1 : (if (l0.length : Int) < (y157.length : Int) then (if (rd y157 (l0.length : Int)) = 71 then (if 0 ≤ (wrap64 ((l0.length : Int) + 1)) then (if (wrap64 ((l0.length : Int) + 1)) < (y157.length : Int) then (some ((rd y157 (wrap64 ((l0.length : Int) + 1))) == 72)) else (none)) else (none)) else (some false)) else (none)) = some r := by rw [if_pos rfl] at H; exact H
                                        clear H
                                        have H := H1
                                        clear H1
                                        by_cases c54 : (l0.length : Int) < (y157.length : Int)
                                        · rw [if_pos c54] at H
                                          have c54b0 : decide ((l0.length : Int) < (y157.length : Int)) = true := decide_eq_true c54
                                          have c54b1 : decide (l0.length < y157.length) = true := decide_eq_true (Int.ofNat_lt.mp c54)
                                          clear c54
                                          by_cases c55 : (rd y157 (l0.length : Int)) = 71
                                          · rw [if_pos c55] at H
                                            have c55b0 : ((rd y157 (l0.length : Int)) == 71) = true := beq_iff_eq.mpr c55
                                            have c55b1 : ((rd y157 (l0.length : Int)) != 71) = false := bne_eq_false_iff_eq.mpr c55
                                            clear c55
                                            obtain ⟨ji56, hji56⟩ : ∃ j_ : Int, (wrap64 ((l0.length : Int) + 1)) = j_ := ⟨_, rfl⟩
                                            replace H : (if 0 ≤ (ji56) then (if (ji56) < (y157.length : Int) then (some ((rd y157 (ji56)) == 72)) else (none)) else (none)) = some r := by first | (rw [hji56] at H; exact H) | (simp only [hji56] at H ⊢; exact H)
                                            (try rw [hji56] at A52)
                                            have hji56w : (IntKind.i64.wrap ((l0.length : Int) + 1)) = ji56 := (i64_w _).trans hji56
                                            by_cases c57 : 0 ≤ (ji56)
                                            · rw [if_pos c57] at H
                                              have c57b0 : decide (0 ≤ (ji56)) = true := decide_eq_true c57
                                              clear c57
                                              by_cases c58 : (ji56) < (y157.length : Int)
                                              · rw [if_pos c58] at H
                                                have c58b0 : decide ((ji56) < (y157.length : Int)) = true := decide_eq_true c58
                                                clear c58
                                                obtain rfl := Option.some.inj H
                                                obtain ⟨Ao59, co59, eo59⟩ := Kd.R_slice HO_11.out
                                                subst eo59
                                                have q60 : ((l0.length : Int) : Int) ≤ ((y157.length : Int) : Int) := of_decide_eq_true (by first | (with_reducible assumption) | assumption)
                                                obtain ⟨i060, hi060, _, hsz60, _⟩ := info_parts info34
                                                have hroom60 : y157.length ≤ co26 := (Kd.R_reads' HO_5.out).2.1
                                                have hC60 : Kd.C (Kd.int .u64) _ Ao26 y157.length y157 := (Kd.R_reads' HO_5.out).2.2
                                                have hcut60 := cut_to (P := Tryd.prog) 24 34 .i64 Tryd.underlying24 hi060 Ao26 y157.length co26 (l0.length : Int) (of_decide_eq_true (by first | (with_reducible assumption) | assumption)) q60 hroom60
                                                have hr60 := Kd.C_take (m := ((l0.length : Int) : Int).toNat) hC60 (by omega)
                                                have hy60 : y178.length = ((l0.length : Int) : Int).toNat := (by rw [Ny178.out, List.length_take]; omega)
                                                rw [← Ny178.out] at hr60
                                                rw [← hy60] at hcut60
                                                have HR181 := Aside0.mk hr60
                                                have HC181 := Aside0.mk (show y178.length ≤ co26 from by omega)
                                                clear hr60 hC60 hroom60 hi060 hsz60
                                                have KY60 := Aside0.mk hy60
                                                clear hy60
                                                have KL60 := Aside0.mk (show ((l0.length : Int) : Int).toNat ≤ y157.length from by omega)
                                                replace q60 := eq_true q60
                                                go_wp2_with (first | ((with_reducible refine gate_callee (f := 15) rfl ?_); refine goesL_ (some 83) rfl rfl Tryd.func15 (by kernel_rfl) rfl #[.slice Ao26 y178.length co26, .slice A0 l0.length c0] rfl (by (try simp only [List.map_toArray, List.map_cons, List.map_nil]); first | done | rfl | (simp only [List.length_drop, List.length_take]; rfl)) ?_; (with_reducible refine (windrowref01_Words.calls k4 _ _ y178 _ _ l0 true _ ?side1 ?side2 ?side3 ?side4 A52.out).mono ?_); (case side1 => repeat (first | exact (by repeat (first | (with_reducible exact HR181.out) | (with_reducible refine Kd.C_alloc ?_ _) | (with_reducible refine Kd.C_drewN ?_ _) | (with_reducible refine Kd.C_drew ?_) | exact HR181.out)) | (with_reducible refine Kd.C_alloc ?_ _) | (with_reducible refine Kd.C_drewN ?_ _) | (with_reducible refine Kd.C_drew ?_))); (case side2 => exact HC181.out); (case side3 => repeat (first | exact (Kd.C_below HR0.out HB.out) | (with_reducible refine Kd.C_alloc ?_ _) | (with_reducible refine Kd.C_drewN ?_ _) | (with_reducible refine Kd.C_drew ?_))); (case side4 => exact HC0.out); rintro e w' ⟨rfl, ⟨nd, rfl⟩⟩; refine ⟨_, rfl, ?_⟩; have p183 : 0 ≤ ((l0.length : Int) : Int) := of_decide_eq_true (by first | (with_reducible assumption) | assumption); have q183 : (l0.length : Int) < (y157.length : Int) := of_decide_eq_true (by first | (with_reducible assumption) | assumption); obtain ⟨ad183, e183, hx183_0⟩ := Kd.at_int (Kd.R_reads' HO_5.out).2.2 (l0.length : Int) p183 q183; cases e183; (try simp only [Go.IntWalk.toNatUp] at hx183_0); replace p183 := eq_true p183; replace q183 := eq_true q183; have p184 : 0 ≤ ((ji56) : Int) := of_decide_eq_true (by first | (with_reducible assumption) | assumption); have q184 : (ji56) < (y157.length : Int) := of_decide_eq_true (by first | (with_reducible assumption) | assumption); obtain ⟨ad184, e184, hx184_0⟩ := Kd.at_int (Kd.R_reads' HO_5.out).2.2 (ji56) p184 q184; obtain rfl : ad183 = ad184 := (by injection e184); replace p184 := eq_true p184; replace q184 := eq_true q184))
                                                go_ret
                                                exact ⟨by first | rfl | (simp [errW_none, errW_some] <;> rfl) | (simp only [← hji56]; first | rfl | (simp [errW_none, errW_some] <;> rfl)) | (simp [*, errW_none, errW_some] <;> rfl), by repeat (first | (with_reducible first | exact HB.out | apply below_alloc | apply pw_below_drewN | apply below_drew1) | exact HB.out)⟩
                                              · rw [if_neg c58] at H
                                                exact absurd H (by simp)
                                            · rw [if_neg c57] at H
                                              exact absurd H (by simp)
                                          · rw [if_neg c55] at H
                                            have c55b0 : ((rd y157 (l0.length : Int)) == 71) = false := beq_eq_false_iff_ne.mpr c55
                                            have c55b1 : ((rd y157 (l0.length : Int)) != 71) = true := bne_iff_ne.mpr c55
                                            exact absurd (H.trans (congrArg some HTRUE_.out)) (by simp)
                                        · rw [if_neg c54] at H
                                          exact absurd H (by simp)
                                      · replace c53 := Bool.eq_false_iff.mpr c53
                                        subst c53
                                        have H1 : (some false) = some r := by rw [if_neg (show ¬ (false = true) by decide)] at H; exact H
                                        clear H
                                        have H := H1
                                        clear H1
                                        exact absurd (H.trans (congrArg some HTRUE_.out)) (by simp)
                                    · rw [if_neg c51] at H
                                      exact absurd H (by simp)
                                  · rw [if_neg c50] at H
                                    exact absurd H (by simp)
              · rw [if_neg c14] at H
                exact absurd H (by simp)
            · rw [if_neg c13] at H
              exact absurd H (by simp)
          · rw [if_neg c12] at H
            exact absurd H (by simp)
        · rw [if_neg c11] at H
          exact absurd H (by simp)

/-- The pure statement of windrowlaw04_MaskKeeps. -/
def windrowlaw04_MaskKeeps.Pure : Prop := ∀ (l0 : List Int) (a1 : Int), l0.length ≤ maxLen → l0.length * 8 ≤ 140737488351232 → (∀ x ∈ l0, (Lit.int .u64 x).wf = true) → (Lit.int .i64 a1).wf = true → ∃ k, windrowlaw04_MaskKeeps.f k l0 a1 = some true
theorem windrowlaw04_MaskKeeps.walk (P : windrowlaw04_MaskKeeps.Pure) (a0 : Option Addr) (len0 cap0 : Nat) (z0 : List Int) (a1 : Int) (w : World) (w0 : (a0 = none ∧ len0 = 0 ∧ cap0 = 0 ∧ z0 = []) ∨ ∃ x, a0 = some x ∧ len0 ≤ cap0 ∧ cap0 ≤ maxLen ∧ z0.length = cap0 ∧ (∀ i, i < z0.length → w.cell? (x.add i) = some (.int .u64 (z0.getD i 0))) ∧ ∀ n ∈ z0, (Lit.int .u64 n).wf = true) (y0 : len0 * 8 ≤ 140737488351232) (w1 : (Lit.int .i64 a1).wf = true) (HL : LAID w) :
    Calls Tryd.prog 7 #[.slice a0 len0 cap0, .int .i64 a1] w fun e w' => e = .returned (.bool true) ∧ Below w.heap.size w w' := by
  obtain ⟨l0, rfl, hr0, hm0, hw0, hc0⟩ := ReadsInt.ofRowC w0
  obtain ⟨k, h⟩ := P l0 a1 hm0 y0 hw0 w1
  refine (windrowlaw04_MaskKeeps.calls k _ _ l0 a1 true w (Kd.C_of_reads (d := (0 : Int)) (h1 := fun _ => rfl) hr0) hc0 ⟨rfl⟩ ⟨HL⟩ h).mono ?_
  rintro e w' ⟨rfl, hd⟩
  exact ⟨rfl, hd⟩

end Go.Proofs.YticoepbjpeepcaaDoor.PAll

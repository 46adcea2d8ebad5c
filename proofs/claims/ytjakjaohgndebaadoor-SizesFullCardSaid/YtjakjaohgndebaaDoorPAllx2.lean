-- Written by a program of the prover's (mp.py). Not trusted: Lean checks it.
import Derived.Test.YtjakjaohgndebaaDoorPAllx0
import Derived.Test.YtjakjaohgndebaaDoorPAllx1
namespace Go.Proofs.YtjakjaohgndebaaDoor.PAll
open Go.RowKit Go.Proofs.YtjakjaohgndebaaDoorW.PrintWords Go.Proofs.YtjakjaohgndebaaDoorW.PrintLast Go.Proofs.YtjakjaohgndebaaDoorW.PrintMore
attribute [local go_sem] max2_int min2_int max_two min_two max_three min_three max_four min_four   -- for this text's walks alone
set_option linter.unusedVariables false
set_option linter.unusedSimpArgs false

/-! ### windrowlaw05_SizesLeast: function 4 -/
def windrowlaw05_SizesLeast.j0 : Nat → Int → Int → Bool → Option (Bool)
  | 0, _, _, _ => none
  | k + 1, x0, x5, x66 => if x66 = true then (some false) else (if x5 > 0 then ((sizes_Words.f (wrap64 (x5 - 1))).bind fun bt148 => (if bt148.2 = 0 then (some (decide (bt148.1 < x0))) else (some false))) else (some true))
def windrowlaw05_SizesLeast.f (k : Nat) (a0 : Int) (a1 : Int) : Option (Bool) := (sizes_Class.f (wrap64 (1 + (wrap64 (Int.tmod (IntKind.u64.wrap (a0)) 32))))).bind fun bt141 => ((sizes_Class.f (wrap64 (1 + (wrap64 (Int.tmod (IntKind.u64.wrap (a1)) 32))))).bind fun bt143 => ((sizes_Words.f bt141.1).bind fun bt145 => ((windrowlaw05_sized.f).bind fun t147 => (if t147 = true then (if bt141.2 = 0 then (if bt143.2 = 0 then (if bt145.2 = 0 then (if bt145.1 < (wrap64 (1 + (wrap64 (Int.tmod (IntKind.u64.wrap (a0)) 32)))) then (windrowlaw05_SizesLeast.j0 k (wrap64 (1 + (wrap64 (Int.tmod (IntKind.u64.wrap (a0)) 32)))) bt141.1 true) else (if (wrap64 (1 + (wrap64 (Int.tmod (IntKind.u64.wrap (a0)) 32)))) ≤ (wrap64 (1 + (wrap64 (Int.tmod (IntKind.u64.wrap (a1)) 32)))) then (windrowlaw05_SizesLeast.j0 k (wrap64 (1 + (wrap64 (Int.tmod (IntKind.u64.wrap (a0)) 32)))) bt141.1 (decide (bt141.1 > bt143.1))) else (windrowlaw05_SizesLeast.j0 k (wrap64 (1 + (wrap64 (Int.tmod (IntKind.u64.wrap (a0)) 32)))) bt141.1 false))) else (windrowlaw05_SizesLeast.j0 k (wrap64 (1 + (wrap64 (Int.tmod (IntKind.u64.wrap (a0)) 32)))) bt141.1 true)) else (windrowlaw05_SizesLeast.j0 k (wrap64 (1 + (wrap64 (Int.tmod (IntKind.u64.wrap (a0)) 32)))) bt141.1 true)) else (windrowlaw05_SizesLeast.j0 k (wrap64 (1 + (wrap64 (Int.tmod (IntKind.u64.wrap (a0)) 32)))) bt141.1 true)) else (windrowlaw05_SizesLeast.j0 k (wrap64 (1 + (wrap64 (Int.tmod (IntKind.u64.wrap (a0)) 32)))) bt141.1 true)))))
theorem windrowlaw05_SizesLeast.mono_l : ∀ k, (∀ y0 y1 y2, LeO (windrowlaw05_SizesLeast.j0 k y0 y1 y2) (windrowlaw05_SizesLeast.j0 (k + 1) y0 y1 y2))
  | 0 => fun _ _ _ r h => by simp [windrowlaw05_SizesLeast.j0] at h
  | k + 1 => by
    have ih0 := windrowlaw05_SizesLeast.mono_l k
    · intro y0 y1 y2
      unfold windrowlaw05_SizesLeast.j0
      repeat' first
      | (with_reducible exact ih0 _ _ _)
      | (with_reducible exact LeO.refl _)
      | (with_reducible exact LeO.none _)
      | (with_reducible refine LeO.ite ?_ ?_)
      | (with_reducible refine LeO.bind ?_ (fun _ => ?_))
      | exact ih0 _ _ _
      | exact LeO.none _
      | refine LeO.ite ?_ ?_
      | refine LeO.bind ?_ (fun _ => ?_)
theorem windrowlaw05_SizesLeast.mono : ∀ a0 a1 k, LeO (windrowlaw05_SizesLeast.f k a0 a1) (windrowlaw05_SizesLeast.f (k + 1) a0 a1) := by
  intro a0 a1 k
  have ih0 := windrowlaw05_SizesLeast.mono_l k
  unfold windrowlaw05_SizesLeast.f
  repeat' first
      | (with_reducible exact ih0 _ _ _)
      | (with_reducible exact LeO.refl _)
      | (with_reducible exact LeO.none _)
      | (with_reducible refine LeO.ite ?_ ?_)
      | (with_reducible refine LeO.bind ?_ (fun _ => ?_))
      | exact ih0 _ _ _
      | exact LeO.none _
      | refine LeO.ite ?_ ?_
      | refine LeO.bind ?_ (fun _ => ?_)
set_option maxHeartbeats 8000000 in
set_option maxRecDepth 100000 in
theorem windrowlaw05_SizesLeast.calls (k : Nat) (a0 : Int) (a1 : Int) (r : Bool) (w : World) (HTRUE_ : Aside0 (r = true)) (HL_ : Aside0 (LAID w)) (h : windrowlaw05_SizesLeast.f k a0 a1 = some r) :
    Calls Tryd.prog 4 #[.int .i64 a0, .int .i64 a1] w fun e w' => e = .returned (.bool r) ∧ Below w.heap.size w w' := by
  have HB := Aside0.mk (Below.refl w.heap.size w)
  have H : ((sizes_Class.f (wrap64 (1 + (wrap64 (Int.tmod (IntKind.u64.wrap (a0)) 32))))).bind fun bt141 => ((sizes_Class.f (wrap64 (1 + (wrap64 (Int.tmod (IntKind.u64.wrap (a1)) 32))))).bind fun bt143 => ((sizes_Words.f bt141.1).bind fun bt145 => ((windrowlaw05_sized.f).bind fun t147 => (if t147 = true then (if bt141.2 = 0 then (if bt143.2 = 0 then (if bt145.2 = 0 then (if bt145.1 < (wrap64 (1 + (wrap64 (Int.tmod (IntKind.u64.wrap (a0)) 32)))) then (windrowlaw05_SizesLeast.j0 k (wrap64 (1 + (wrap64 (Int.tmod (IntKind.u64.wrap (a0)) 32)))) bt141.1 true) else (if (wrap64 (1 + (wrap64 (Int.tmod (IntKind.u64.wrap (a0)) 32)))) ≤ (wrap64 (1 + (wrap64 (Int.tmod (IntKind.u64.wrap (a1)) 32)))) then (windrowlaw05_SizesLeast.j0 k (wrap64 (1 + (wrap64 (Int.tmod (IntKind.u64.wrap (a0)) 32)))) bt141.1 (decide (bt141.1 > bt143.1))) else (windrowlaw05_SizesLeast.j0 k (wrap64 (1 + (wrap64 (Int.tmod (IntKind.u64.wrap (a0)) 32)))) bt141.1 false))) else (windrowlaw05_SizesLeast.j0 k (wrap64 (1 + (wrap64 (Int.tmod (IntKind.u64.wrap (a0)) 32)))) bt141.1 true)) else (windrowlaw05_SizesLeast.j0 k (wrap64 (1 + (wrap64 (Int.tmod (IntKind.u64.wrap (a0)) 32)))) bt141.1 true)) else (windrowlaw05_SizesLeast.j0 k (wrap64 (1 + (wrap64 (Int.tmod (IntKind.u64.wrap (a0)) 32)))) bt141.1 true)) else (windrowlaw05_SizesLeast.j0 k (wrap64 (1 + (wrap64 (Int.tmod (IntKind.u64.wrap (a0)) 32)))) bt141.1 true)))))) = some r := h
  clear h
  replace H := Option.bind_eq_some_iff.mp H
  obtain ⟨⟨t141, t142⟩, A30, H⟩ := H
  replace H : ((sizes_Class.f (wrap64 (1 + (wrap64 (Int.tmod (IntKind.u64.wrap (a1)) 32))))).bind fun bt143 => ((sizes_Words.f t141).bind fun bt145 => ((windrowlaw05_sized.f).bind fun t147 => (if t147 = true then (if t142 = 0 then (if bt143.2 = 0 then (if bt145.2 = 0 then (if bt145.1 < (wrap64 (1 + (wrap64 (Int.tmod (IntKind.u64.wrap (a0)) 32)))) then (windrowlaw05_SizesLeast.j0 k (wrap64 (1 + (wrap64 (Int.tmod (IntKind.u64.wrap (a0)) 32)))) t141 true) else (if (wrap64 (1 + (wrap64 (Int.tmod (IntKind.u64.wrap (a0)) 32)))) ≤ (wrap64 (1 + (wrap64 (Int.tmod (IntKind.u64.wrap (a1)) 32)))) then (windrowlaw05_SizesLeast.j0 k (wrap64 (1 + (wrap64 (Int.tmod (IntKind.u64.wrap (a0)) 32)))) t141 (decide (t141 > bt143.1))) else (windrowlaw05_SizesLeast.j0 k (wrap64 (1 + (wrap64 (Int.tmod (IntKind.u64.wrap (a0)) 32)))) t141 false))) else (windrowlaw05_SizesLeast.j0 k (wrap64 (1 + (wrap64 (Int.tmod (IntKind.u64.wrap (a0)) 32)))) t141 true)) else (windrowlaw05_SizesLeast.j0 k (wrap64 (1 + (wrap64 (Int.tmod (IntKind.u64.wrap (a0)) 32)))) t141 true)) else (windrowlaw05_SizesLeast.j0 k (wrap64 (1 + (wrap64 (Int.tmod (IntKind.u64.wrap (a0)) 32)))) t141 true)) else (windrowlaw05_SizesLeast.j0 k (wrap64 (1 + (wrap64 (Int.tmod (IntKind.u64.wrap (a0)) 32)))) t141 true))))) = some r := H
  have A3 := Aside0.mk A30
  clear A30
  replace H := Option.bind_eq_some_iff.mp H
  obtain ⟨⟨t143, t144⟩, A40, H⟩ := H
  replace H : ((sizes_Words.f t141).bind fun bt145 => ((windrowlaw05_sized.f).bind fun t147 => (if t147 = true then (if t142 = 0 then (if t144 = 0 then (if bt145.2 = 0 then (if bt145.1 < (wrap64 (1 + (wrap64 (Int.tmod (IntKind.u64.wrap (a0)) 32)))) then (windrowlaw05_SizesLeast.j0 k (wrap64 (1 + (wrap64 (Int.tmod (IntKind.u64.wrap (a0)) 32)))) t141 true) else (if (wrap64 (1 + (wrap64 (Int.tmod (IntKind.u64.wrap (a0)) 32)))) ≤ (wrap64 (1 + (wrap64 (Int.tmod (IntKind.u64.wrap (a1)) 32)))) then (windrowlaw05_SizesLeast.j0 k (wrap64 (1 + (wrap64 (Int.tmod (IntKind.u64.wrap (a0)) 32)))) t141 (decide (t141 > t143))) else (windrowlaw05_SizesLeast.j0 k (wrap64 (1 + (wrap64 (Int.tmod (IntKind.u64.wrap (a0)) 32)))) t141 false))) else (windrowlaw05_SizesLeast.j0 k (wrap64 (1 + (wrap64 (Int.tmod (IntKind.u64.wrap (a0)) 32)))) t141 true)) else (windrowlaw05_SizesLeast.j0 k (wrap64 (1 + (wrap64 (Int.tmod (IntKind.u64.wrap (a0)) 32)))) t141 true)) else (windrowlaw05_SizesLeast.j0 k (wrap64 (1 + (wrap64 (Int.tmod (IntKind.u64.wrap (a0)) 32)))) t141 true)) else (windrowlaw05_SizesLeast.j0 k (wrap64 (1 + (wrap64 (Int.tmod (IntKind.u64.wrap (a0)) 32)))) t141 true)))) = some r := H
  have A4 := Aside0.mk A40
  clear A40
  replace H := Option.bind_eq_some_iff.mp H
  obtain ⟨⟨t145, t146⟩, A50, H⟩ := H
  replace H : ((windrowlaw05_sized.f).bind fun t147 => (if t147 = true then (if t142 = 0 then (if t144 = 0 then (if t146 = 0 then (if t145 < (wrap64 (1 + (wrap64 (Int.tmod (IntKind.u64.wrap (a0)) 32)))) then (windrowlaw05_SizesLeast.j0 k (wrap64 (1 + (wrap64 (Int.tmod (IntKind.u64.wrap (a0)) 32)))) t141 true) else (if (wrap64 (1 + (wrap64 (Int.tmod (IntKind.u64.wrap (a0)) 32)))) ≤ (wrap64 (1 + (wrap64 (Int.tmod (IntKind.u64.wrap (a1)) 32)))) then (windrowlaw05_SizesLeast.j0 k (wrap64 (1 + (wrap64 (Int.tmod (IntKind.u64.wrap (a0)) 32)))) t141 (decide (t141 > t143))) else (windrowlaw05_SizesLeast.j0 k (wrap64 (1 + (wrap64 (Int.tmod (IntKind.u64.wrap (a0)) 32)))) t141 false))) else (windrowlaw05_SizesLeast.j0 k (wrap64 (1 + (wrap64 (Int.tmod (IntKind.u64.wrap (a0)) 32)))) t141 true)) else (windrowlaw05_SizesLeast.j0 k (wrap64 (1 + (wrap64 (Int.tmod (IntKind.u64.wrap (a0)) 32)))) t141 true)) else (windrowlaw05_SizesLeast.j0 k (wrap64 (1 + (wrap64 (Int.tmod (IntKind.u64.wrap (a0)) 32)))) t141 true)) else (windrowlaw05_SizesLeast.j0 k (wrap64 (1 + (wrap64 (Int.tmod (IntKind.u64.wrap (a0)) 32)))) t141 true))) = some r := H
  have A5 := Aside0.mk A50
  clear A50
  have HC6 := Aside0.mk H
  clear H
  go_enter Tryd.func4, Tryd.ntmps4
  go_upto_region 5 with (first | ((with_reducible refine gate_callee (f := 17) rfl ?_); refine goesL_ (some 25) rfl rfl Tryd.func17 (by kernel_rfl) rfl #[.int .i64 (wrap64 (1 + (wrap64 (Int.tmod (IntKind.u64.wrap (a0)) 32))))] rfl (by (try simp only [List.map_toArray, List.map_cons, List.map_nil]); first | done | rfl | (simp only [List.length_drop, List.length_take]; rfl)) ?_; (with_reducible refine (sizes_Class.calls (wrap64 (1 + (wrap64 (Int.tmod (IntKind.u64.wrap (a0)) 32)))) t141 t142 _ ?side1 A3.out).mono ?_); (case side1 => exact ⟨LAID.below HL_.out (by repeat (first | (with_reducible first | exact HB.out | apply below_alloc | apply pw_below_drewN | apply below_drew1) | exact HB.out))⟩); rintro e w' ⟨rfl, ⟨nd, rfl⟩⟩; refine ⟨_, rfl, ?_⟩) | ((with_reducible refine gate_callee (f := 17) rfl ?_); refine goesL_ (some 30) rfl rfl Tryd.func17 (by kernel_rfl) rfl #[.int .i64 (wrap64 (1 + (wrap64 (Int.tmod (IntKind.u64.wrap (a1)) 32))))] rfl (by (try simp only [List.map_toArray, List.map_cons, List.map_nil]); first | done | rfl | (simp only [List.length_drop, List.length_take]; rfl)) ?_; (with_reducible refine (sizes_Class.calls (wrap64 (1 + (wrap64 (Int.tmod (IntKind.u64.wrap (a1)) 32)))) t143 t144 _ ?side1 A4.out).mono ?_); (case side1 => exact ⟨LAID.below HL_.out (by repeat (first | (with_reducible first | exact HB.out | apply below_alloc | apply pw_below_drewN | apply below_drew1) | exact HB.out))⟩); rintro e w' ⟨rfl, ⟨nd, rfl⟩⟩; refine ⟨_, rfl, ?_⟩) | ((with_reducible refine gate_callee (f := 10) rfl ?_); refine goesL_ (some 35) rfl rfl Tryd.func10 (by kernel_rfl) rfl #[.int .i64 t141] rfl (by (try simp only [List.map_toArray, List.map_cons, List.map_nil]); first | done | rfl | (simp only [List.length_drop, List.length_take]; rfl)) ?_; (with_reducible refine (sizes_Words.calls t141 t145 t146 _ ?side1 A5.out).mono ?_); (case side1 => exact ⟨LAID.below HL_.out (by repeat (first | (with_reducible first | exact HB.out | apply below_alloc | apply pw_below_drewN | apply below_drew1) | exact HB.out))⟩); rintro e w' ⟨rfl, ⟨nd, rfl⟩⟩; refine ⟨_, rfl, ?_⟩))
  (try simp only [Act.put, List.setIfInBounds_toArray, List.set_cons_zero, List.set_cons_succ])
  go_cut [66] (fun v66 wc => ∃ (kq : Nat) (x66_5 : Bool), v66 = .bool x66_5 ∧ Aside0 (windrowlaw05_SizesLeast.j0 kq (wrap64 (1 + (wrap64 (Int.tmod (IntKind.u64.wrap (a0)) 32)))) t141 x66_5 = some r) ∧ Aside0 (kq ≤ k) ∧ Aside0 (Below w.heap.size w wc))
  case first =>
    have H := HC6.out
    clear HC6
    replace H := Option.bind_eq_some_iff.mp H
    obtain ⟨t147, A70, H⟩ := H
    replace H : (if t147 = true then (if t142 = 0 then (if t144 = 0 then (if t146 = 0 then (if t145 < (wrap64 (1 + (wrap64 (Int.tmod (IntKind.u64.wrap (a0)) 32)))) then (windrowlaw05_SizesLeast.j0 k (wrap64 (1 + (wrap64 (Int.tmod (IntKind.u64.wrap (a0)) 32)))) t141 true) else (if (wrap64 (1 + (wrap64 (Int.tmod (IntKind.u64.wrap (a0)) 32)))) ≤ (wrap64 (1 + (wrap64 (Int.tmod (IntKind.u64.wrap (a1)) 32)))) then (windrowlaw05_SizesLeast.j0 k (wrap64 (1 + (wrap64 (Int.tmod (IntKind.u64.wrap (a0)) 32)))) t141 (decide (t141 > t143))) else (windrowlaw05_SizesLeast.j0 k (wrap64 (1 + (wrap64 (Int.tmod (IntKind.u64.wrap (a0)) 32)))) t141 false))) else (windrowlaw05_SizesLeast.j0 k (wrap64 (1 + (wrap64 (Int.tmod (IntKind.u64.wrap (a0)) 32)))) t141 true)) else (windrowlaw05_SizesLeast.j0 k (wrap64 (1 + (wrap64 (Int.tmod (IntKind.u64.wrap (a0)) 32)))) t141 true)) else (windrowlaw05_SizesLeast.j0 k (wrap64 (1 + (wrap64 (Int.tmod (IntKind.u64.wrap (a0)) 32)))) t141 true)) else (windrowlaw05_SizesLeast.j0 k (wrap64 (1 + (wrap64 (Int.tmod (IntKind.u64.wrap (a0)) 32)))) t141 true)) = some r := H
    have A7 := Aside0.mk A70
    clear A70
    by_cases c8 : t147 = true
    · subst c8
      have H1 : (if t142 = 0 then (if t144 = 0 then (if t146 = 0 then (if t145 < (wrap64 (1 + (wrap64 (Int.tmod (IntKind.u64.wrap (a0)) 32)))) then (windrowlaw05_SizesLeast.j0 k (wrap64 (1 + (wrap64 (Int.tmod (IntKind.u64.wrap (a0)) 32)))) t141 true) else (if (wrap64 (1 + (wrap64 (Int.tmod (IntKind.u64.wrap (a0)) 32)))) ≤ (wrap64 (1 + (wrap64 (Int.tmod (IntKind.u64.wrap (a1)) 32)))) then (windrowlaw05_SizesLeast.j0 k (wrap64 (1 + (wrap64 (Int.tmod (IntKind.u64.wrap (a0)) 32)))) t141 (decide (t141 > t143))) else (windrowlaw05_SizesLeast.j0 k (wrap64 (1 + (wrap64 (Int.tmod (IntKind.u64.wrap (a0)) 32)))) t141 false))) else (windrowlaw05_SizesLeast.j0 k (wrap64 (1 + (wrap64 (Int.tmod (IntKind.u64.wrap (a0)) 32)))) t141 true)) else (windrowlaw05_SizesLeast.j0 k (wrap64 (1 + (wrap64 (Int.tmod (IntKind.u64.wrap (a0)) 32)))) t141 true)) else (windrowlaw05_SizesLeast.j0 k (wrap64 (1 + (wrap64 (Int.tmod (IntKind.u64.wrap (a0)) 32)))) t141 true)) = some r := by rw [if_pos rfl] at H; exact H
      clear H
      have H := H1
      clear H1
      by_cases c9 : t142 = 0
      · rw [if_pos c9] at H
        have c9b0 : (t142 == 0) = true := beq_iff_eq.mpr c9
        have c9b1 : (t142 != 0) = false := bne_eq_false_iff_eq.mpr c9
        clear c9
        (first | rw [c9b0] | (simp only [i64_w, i32_w]; rw [c9b0]) | rw [c9b1] | skip)
        by_cases c10 : t144 = 0
        · rw [if_pos c10] at H
          have c10b0 : (t144 == 0) = true := beq_iff_eq.mpr c10
          have c10b1 : (t144 != 0) = false := bne_eq_false_iff_eq.mpr c10
          clear c10
          by_cases c11 : t146 = 0
          · rw [if_pos c11] at H
            have c11b0 : (t146 == 0) = true := beq_iff_eq.mpr c11
            have c11b1 : (t146 != 0) = false := bne_eq_false_iff_eq.mpr c11
            clear c11
            by_cases c12 : t145 < (wrap64 (1 + (wrap64 (Int.tmod (IntKind.u64.wrap (a0)) 32))))
            · rw [if_pos c12] at H
              have c12b0 : decide (t145 < (wrap64 (1 + (wrap64 (Int.tmod (IntKind.u64.wrap (a0)) 32))))) = true := decide_eq_true c12
              clear c12
              have H' := Aside0.mk H
              clear H
              go_wp2_with (first | ((with_reducible refine gate_callee (f := 15) rfl ?_); refine goesL_ (some 38) rfl rfl Tryd.func15 (by kernel_rfl) rfl #[] rfl (by (try simp only [List.map_toArray, List.map_cons, List.map_nil]); first | done | rfl | (simp only [List.length_drop, List.length_take]; rfl)) ?_; (with_reducible refine (windrowlaw05_sized.calls  true _ ?side1 A7.out).mono ?_); (case side1 => exact ⟨LAID.below HL_.out (by repeat (first | (with_reducible first | exact HB.out | apply below_alloc | apply pw_below_drewN | apply below_drew1) | exact HB.out))⟩); rintro e w13 ⟨rfl, hb⟩; refine ⟨_, rfl, ?_⟩; have n0_ := Aside0.mk (below_step (by repeat (first | (with_reducible first | exact HB.out | apply below_alloc | apply pw_below_drewN | apply below_drew1) | exact HB.out)) hb); clear HB; have HB := n0_; clear n0_; (try clear hb); (try clear hb2); (try clear hk); (try clear hi)))
              go_meet
              case rel => exact ⟨_, (true), (by first | rfl | (simp; done) | (simp [*]; done)), H', ⟨by first | omega | exact Nat.le_refl _⟩, ⟨by repeat (first | (with_reducible first | exact HB.out | apply below_alloc | apply pw_below_drewN | apply below_drew1) | exact HB.out)⟩⟩
            · rw [if_neg c12] at H
              have c12b0 : decide (t145 < (wrap64 (1 + (wrap64 (Int.tmod (IntKind.u64.wrap (a0)) 32))))) = false := decide_eq_false c12
              clear c12
              by_cases c14 : (wrap64 (1 + (wrap64 (Int.tmod (IntKind.u64.wrap (a0)) 32)))) ≤ (wrap64 (1 + (wrap64 (Int.tmod (IntKind.u64.wrap (a1)) 32))))
              · rw [if_pos c14] at H
                have c14b0 : decide ((wrap64 (1 + (wrap64 (Int.tmod (IntKind.u64.wrap (a0)) 32)))) ≤ (wrap64 (1 + (wrap64 (Int.tmod (IntKind.u64.wrap (a1)) 32))))) = true := decide_eq_true c14
                clear c14
                have H' := Aside0.mk H
                clear H
                go_wp2_with (first | ((with_reducible refine gate_callee (f := 15) rfl ?_); refine goesL_ (some 38) rfl rfl Tryd.func15 (by kernel_rfl) rfl #[] rfl (by (try simp only [List.map_toArray, List.map_cons, List.map_nil]); first | done | rfl | (simp only [List.length_drop, List.length_take]; rfl)) ?_; (with_reducible refine (windrowlaw05_sized.calls  true _ ?side1 A7.out).mono ?_); (case side1 => exact ⟨LAID.below HL_.out (by repeat (first | (with_reducible first | exact HB.out | apply below_alloc | apply pw_below_drewN | apply below_drew1) | exact HB.out))⟩); rintro e w15 ⟨rfl, hb⟩; refine ⟨_, rfl, ?_⟩; have n0_ := Aside0.mk (below_step (by repeat (first | (with_reducible first | exact HB.out | apply below_alloc | apply pw_below_drewN | apply below_drew1) | exact HB.out)) hb); clear HB; have HB := n0_; clear n0_; (try clear hb); (try clear hb2); (try clear hk); (try clear hi)))
                go_meet
                case rel => exact ⟨_, (decide (t141 > t143)), (by first | rfl | (simp; done) | (simp [*]; done)), H', ⟨by first | omega | exact Nat.le_refl _⟩, ⟨by repeat (first | (with_reducible first | exact HB.out | apply below_alloc | apply pw_below_drewN | apply below_drew1) | exact HB.out)⟩⟩
              · rw [if_neg c14] at H
                have c14b0 : decide ((wrap64 (1 + (wrap64 (Int.tmod (IntKind.u64.wrap (a0)) 32)))) ≤ (wrap64 (1 + (wrap64 (Int.tmod (IntKind.u64.wrap (a1)) 32))))) = false := decide_eq_false c14
                clear c14
                have H' := Aside0.mk H
                clear H
                go_wp2_with (first | ((with_reducible refine gate_callee (f := 15) rfl ?_); refine goesL_ (some 38) rfl rfl Tryd.func15 (by kernel_rfl) rfl #[] rfl (by (try simp only [List.map_toArray, List.map_cons, List.map_nil]); first | done | rfl | (simp only [List.length_drop, List.length_take]; rfl)) ?_; (with_reducible refine (windrowlaw05_sized.calls  true _ ?side1 A7.out).mono ?_); (case side1 => exact ⟨LAID.below HL_.out (by repeat (first | (with_reducible first | exact HB.out | apply below_alloc | apply pw_below_drewN | apply below_drew1) | exact HB.out))⟩); rintro e w16 ⟨rfl, hb⟩; refine ⟨_, rfl, ?_⟩; have n0_ := Aside0.mk (below_step (by repeat (first | (with_reducible first | exact HB.out | apply below_alloc | apply pw_below_drewN | apply below_drew1) | exact HB.out)) hb); clear HB; have HB := n0_; clear n0_; (try clear hb); (try clear hb2); (try clear hk); (try clear hi)))
                go_meet
                case rel => exact ⟨_, (false), (by first | rfl | (simp; done) | (simp [*]; done)), H', ⟨by first | omega | exact Nat.le_refl _⟩, ⟨by repeat (first | (with_reducible first | exact HB.out | apply below_alloc | apply pw_below_drewN | apply below_drew1) | exact HB.out)⟩⟩
          · rw [if_neg c11] at H
            have c11b0 : (t146 == 0) = false := beq_eq_false_iff_ne.mpr c11
            have c11b1 : (t146 != 0) = true := bne_iff_ne.mpr c11
            have H' := Aside0.mk H
            clear H
            go_wp2_with (first | ((with_reducible refine gate_callee (f := 15) rfl ?_); refine goesL_ (some 38) rfl rfl Tryd.func15 (by kernel_rfl) rfl #[] rfl (by (try simp only [List.map_toArray, List.map_cons, List.map_nil]); first | done | rfl | (simp only [List.length_drop, List.length_take]; rfl)) ?_; (with_reducible refine (windrowlaw05_sized.calls  true _ ?side1 A7.out).mono ?_); (case side1 => exact ⟨LAID.below HL_.out (by repeat (first | (with_reducible first | exact HB.out | apply below_alloc | apply pw_below_drewN | apply below_drew1) | exact HB.out))⟩); rintro e w17 ⟨rfl, hb⟩; refine ⟨_, rfl, ?_⟩; have n0_ := Aside0.mk (below_step (by repeat (first | (with_reducible first | exact HB.out | apply below_alloc | apply pw_below_drewN | apply below_drew1) | exact HB.out)) hb); clear HB; have HB := n0_; clear n0_; (try clear hb); (try clear hb2); (try clear hk); (try clear hi)))
            go_meet
            case rel => exact ⟨_, (true), (by first | rfl | (simp; done) | (simp [*]; done)), H', ⟨by first | omega | exact Nat.le_refl _⟩, ⟨by repeat (first | (with_reducible first | exact HB.out | apply below_alloc | apply pw_below_drewN | apply below_drew1) | exact HB.out)⟩⟩
        · rw [if_neg c10] at H
          have c10b0 : (t144 == 0) = false := beq_eq_false_iff_ne.mpr c10
          have c10b1 : (t144 != 0) = true := bne_iff_ne.mpr c10
          have H' := Aside0.mk H
          clear H
          go_wp2_with (first | ((with_reducible refine gate_callee (f := 15) rfl ?_); refine goesL_ (some 38) rfl rfl Tryd.func15 (by kernel_rfl) rfl #[] rfl (by (try simp only [List.map_toArray, List.map_cons, List.map_nil]); first | done | rfl | (simp only [List.length_drop, List.length_take]; rfl)) ?_; (with_reducible refine (windrowlaw05_sized.calls  true _ ?side1 A7.out).mono ?_); (case side1 => exact ⟨LAID.below HL_.out (by repeat (first | (with_reducible first | exact HB.out | apply below_alloc | apply pw_below_drewN | apply below_drew1) | exact HB.out))⟩); rintro e w18 ⟨rfl, hb⟩; refine ⟨_, rfl, ?_⟩; have n0_ := Aside0.mk (below_step (by repeat (first | (with_reducible first | exact HB.out | apply below_alloc | apply pw_below_drewN | apply below_drew1) | exact HB.out)) hb); clear HB; have HB := n0_; clear n0_; (try clear hb); (try clear hb2); (try clear hk); (try clear hi)))
          go_meet
          case rel => exact ⟨_, (true), (by first | rfl | (simp; done) | (simp [*]; done)), H', ⟨by first | omega | exact Nat.le_refl _⟩, ⟨by repeat (first | (with_reducible first | exact HB.out | apply below_alloc | apply pw_below_drewN | apply below_drew1) | exact HB.out)⟩⟩
      · rw [if_neg c9] at H
        have c9b0 : (t142 == 0) = false := beq_eq_false_iff_ne.mpr c9
        have c9b1 : (t142 != 0) = true := bne_iff_ne.mpr c9
        (first | rw [c9b0] | (simp only [i64_w, i32_w]; rw [c9b0]) | rw [c9b1] | skip)
        have H' := Aside0.mk H
        clear H
        go_wp2_with (first | ((with_reducible refine gate_callee (f := 15) rfl ?_); refine goesL_ (some 38) rfl rfl Tryd.func15 (by kernel_rfl) rfl #[] rfl (by (try simp only [List.map_toArray, List.map_cons, List.map_nil]); first | done | rfl | (simp only [List.length_drop, List.length_take]; rfl)) ?_; (with_reducible refine (windrowlaw05_sized.calls  true _ ?side1 A7.out).mono ?_); (case side1 => exact ⟨LAID.below HL_.out (by repeat (first | (with_reducible first | exact HB.out | apply below_alloc | apply pw_below_drewN | apply below_drew1) | exact HB.out))⟩); rintro e w19 ⟨rfl, hb⟩; refine ⟨_, rfl, ?_⟩; have n0_ := Aside0.mk (below_step (by repeat (first | (with_reducible first | exact HB.out | apply below_alloc | apply pw_below_drewN | apply below_drew1) | exact HB.out)) hb); clear HB; have HB := n0_; clear n0_; (try clear hb); (try clear hb2); (try clear hk); (try clear hi)))
        go_meet
        case rel => exact ⟨_, (true), (by first | rfl | (simp; done) | (simp [*]; done)), H', ⟨by first | omega | exact Nat.le_refl _⟩, ⟨by repeat (first | (with_reducible first | exact HB.out | apply below_alloc | apply pw_below_drewN | apply below_drew1) | exact HB.out)⟩⟩
    · replace c8 := Bool.eq_false_iff.mpr c8
      subst c8
      have H1 : (windrowlaw05_SizesLeast.j0 k (wrap64 (1 + (wrap64 (Int.tmod (IntKind.u64.wrap (a0)) 32)))) t141 true) = some r := by rw [if_neg (show ¬ (false = true) by decide)] at H; exact H
      clear H
      have H := H1
      clear H1
      have H' := Aside0.mk H
      clear H
      go_wp2_with (first | ((with_reducible refine gate_callee (f := 15) rfl ?_); refine goesL_ (some 38) rfl rfl Tryd.func15 (by kernel_rfl) rfl #[] rfl (by (try simp only [List.map_toArray, List.map_cons, List.map_nil]); first | done | rfl | (simp only [List.length_drop, List.length_take]; rfl)) ?_; (with_reducible refine (windrowlaw05_sized.calls  false _ ?side1 A7.out).mono ?_); (case side1 => exact ⟨LAID.below HL_.out (by repeat (first | (with_reducible first | exact HB.out | apply below_alloc | apply pw_below_drewN | apply below_drew1) | exact HB.out))⟩); rintro e w20 ⟨rfl, hb⟩; refine ⟨_, rfl, ?_⟩; have n0_ := Aside0.mk (below_step (by repeat (first | (with_reducible first | exact HB.out | apply below_alloc | apply pw_below_drewN | apply below_drew1) | exact HB.out)) hb); clear HB; have HB := n0_; clear n0_; (try clear hb); (try clear hb2); (try clear hk); (try clear hi)))
      go_meet
      case rel => exact ⟨_, (true), (by first | rfl | (simp; done) | (simp [*]; done)), H', ⟨by first | omega | exact Nat.le_refl _⟩, ⟨by repeat (first | (with_reducible first | exact HB.out | apply below_alloc | apply pw_below_drewN | apply below_drew1) | exact HB.out)⟩⟩
  case rest =>
    clear HC6
    try clear c1
    try clear p2
    try clear c4
    try clear p6
    try clear c8
    try clear c9
    try clear c9b0
    try clear c9b1
    try clear c10
    try clear c10b0
    try clear c10b1
    try clear c11
    try clear c11b0
    try clear c11b1
    try clear c12
    try clear c12b0
    try clear c14
    try clear c14b0
    try clear c15
    try clear c17
    obtain ⟨kq, x66_5, rfl, HA, HJ5, HB⟩ := hcut
    cases kq with
    | zero => exact absurd HA.out (by simp [windrowlaw05_SizesLeast.j0])
    | succ kj5 =>
      have H := HA.out
      clear HA
      simp only [windrowlaw05_SizesLeast.j0] at H
      by_cases c21 : x66_5 = true
      · subst c21
        have H1 : (some false) = some r := by rw [if_pos rfl] at H; exact H
        clear H
        have H := H1
        clear H1
        exact absurd (H.trans (congrArg some HTRUE_.out)) (by simp)
      · replace c21 := Bool.eq_false_iff.mpr c21
        subst c21
        have H1 : (if t141 > 0 then ((sizes_Words.f (wrap64 (t141 - 1))).bind fun bt148 => (if bt148.2 = 0 then (some (decide (bt148.1 < (wrap64 (1 + (wrap64 (Int.tmod (IntKind.u64.wrap (a0)) 32))))))) else (some false))) else (some true)) = some r := by rw [if_neg (show ¬ (false = true) by decide)] at H; exact H
        clear H
        have H := H1
        clear H1
        by_cases c22 : t141 > 0
        · rw [if_pos c22] at H
          have c22b0 : decide (0 < t141) = true := decide_eq_true c22
          clear c22
          replace H := Option.bind_eq_some_iff.mp H
          obtain ⟨⟨t148, t149⟩, A230, H⟩ := H
          replace H : (if t149 = 0 then (some (decide (t148 < (wrap64 (1 + (wrap64 (Int.tmod (IntKind.u64.wrap (a0)) 32))))))) else (some false)) = some r := H
          have A23 := Aside0.mk A230
          clear A230
          by_cases c24 : t149 = 0
          · rw [if_pos c24] at H
            have c24b0 : (t149 == 0) = true := beq_iff_eq.mpr c24
            have c24b1 : (t149 != 0) = false := bne_eq_false_iff_eq.mpr c24
            clear c24
            obtain rfl := Option.some.inj H
            go_wp2_with (first | ((with_reducible refine gate_callee (f := 10) rfl ?_); refine goesL_ (some 72) rfl rfl Tryd.func10 (by kernel_rfl) rfl #[.int .i64 (wrap64 (t141 - 1))] rfl (by (try simp only [List.map_toArray, List.map_cons, List.map_nil]); first | done | rfl | (simp only [List.length_drop, List.length_take]; rfl)) ?_; (with_reducible refine (sizes_Words.calls (wrap64 (t141 - 1)) t148 t149 _ ?side1 A23.out).mono ?_); (case side1 => exact ⟨LAID.below HL_.out (by repeat (first | (with_reducible first | exact HB.out | apply below_alloc | apply pw_below_drewN | apply below_drew1) | exact HB.out))⟩); rintro e w' ⟨rfl, ⟨nd, rfl⟩⟩; refine ⟨_, rfl, ?_⟩))
            go_ret
            exact ⟨by first | rfl | (simp [errW_none, errW_some] <;> rfl) | (simp [*, errW_none, errW_some] <;> rfl), by repeat (first | (with_reducible first | exact HB.out | apply below_alloc | apply pw_below_drewN | apply below_drew1) | exact HB.out)⟩
          · rw [if_neg c24] at H
            have c24b0 : (t149 == 0) = false := beq_eq_false_iff_ne.mpr c24
            have c24b1 : (t149 != 0) = true := bne_iff_ne.mpr c24
            exact absurd (H.trans (congrArg some HTRUE_.out)) (by simp)
        · rw [if_neg c22] at H
          have c22b0 : decide (0 < t141) = false := decide_eq_false c22
          clear c22
          obtain rfl := Option.some.inj H
          go_wp2
          go_ret
          exact ⟨by first | rfl | (simp [errW_none, errW_some] <;> rfl) | (simp [*, errW_none, errW_some] <;> rfl), by repeat (first | (with_reducible first | exact HB.out | apply below_alloc | apply pw_below_drewN | apply below_drew1) | exact HB.out)⟩

/-- The pure statement of windrowlaw05_SizesLeast. -/
def windrowlaw05_SizesLeast.Pure : Prop := ∀ (a0 : Int) (a1 : Int), (Lit.int .i64 a0).wf = true → (Lit.int .i64 a1).wf = true → ∃ k, windrowlaw05_SizesLeast.f k a0 a1 = some true
theorem windrowlaw05_SizesLeast.walk (P : windrowlaw05_SizesLeast.Pure) (a0 : Int) (a1 : Int) (w : World) (w0 : (Lit.int .i64 a0).wf = true) (w1 : (Lit.int .i64 a1).wf = true) (HL : LAID w) :
    Calls Tryd.prog 4 #[.int .i64 a0, .int .i64 a1] w fun e w' => e = .returned (.bool true) ∧ Below w.heap.size w w' := by
  obtain ⟨k, h⟩ := P a0 a1 w0 w1
  refine (windrowlaw05_SizesLeast.calls k a0 a1 true w ⟨rfl⟩ ⟨HL⟩ h).mono ?_
  rintro e w' ⟨rfl, hd⟩
  exact ⟨rfl, hd⟩

/-! ### windrowref01_Bit: function 37 -/
def windrowref01_Bit.f (k : Nat) (a0 : Int) (a1 : Int) : Option (Int) := (windrowref01_Power.f k a1).bind fun t150 => (if t150 = 0 then (none) else (some (Int.tmod (IntKind.u64.wrap (Int.tdiv a0 t150)) 2)))
theorem windrowref01_Bit.mono : ∀ a0 a1 k, LeO (windrowref01_Bit.f k a0 a1) (windrowref01_Bit.f (k + 1) a0 a1) := by
  intro a0 a1 k
  unfold windrowref01_Bit.f
  repeat' first
      | (with_reducible exact windrowref01_Power.mono _ _)
      | (with_reducible exact LeO.refl _)
      | (with_reducible exact LeO.none _)
      | (with_reducible refine LeO.ite ?_ ?_)
      | (with_reducible refine LeO.bind ?_ (fun _ => ?_))
      | exact windrowref01_Power.mono _ _
      | exact LeO.none _
      | refine LeO.ite ?_ ?_
      | refine LeO.bind ?_ (fun _ => ?_)
set_option maxHeartbeats 8000000 in
set_option maxRecDepth 100000 in
theorem windrowref01_Bit.calls (k : Nat) (a0 : Int) (a1 : Int) (r : Int) (w : World) (h : windrowref01_Bit.f k a0 a1 = some r) :
    Calls Tryd.prog 37 #[.int .u64 a0, .int .i64 a1] w fun e w' => e = .returned (.int .u64 r) ∧ Drawn0 w w' := by
  have H : ((windrowref01_Power.f k a1).bind fun t150 => (if t150 = 0 then (none) else (some (Int.tmod (IntKind.u64.wrap (Int.tdiv a0 t150)) 2)))) = some r := h
  clear h
  replace H := Option.bind_eq_some_iff.mp H
  obtain ⟨t150, A30, H⟩ := H
  replace H : (if t150 = 0 then (none) else (some (Int.tmod (IntKind.u64.wrap (Int.tdiv a0 t150)) 2))) = some r := H
  have A3 := Aside0.mk A30
  clear A30
  by_cases c4 : t150 = 0
  · rw [if_pos c4] at H
    exact absurd H (by simp)
  · rw [if_neg c4] at H
    have c4b0 : (t150 == 0) = false := beq_eq_false_iff_ne.mpr c4
    have c4b1 : (t150 != 0) = true := bne_iff_ne.mpr c4
    obtain rfl := Option.some.inj H
    go_enter Tryd.func37, Tryd.ntmps37
    go_wp2_with (first | ((with_reducible refine gate_callee (f := 36) rfl ?_); refine goesL_ (some 7) rfl rfl Tryd.func36 (by kernel_rfl) rfl #[.int .i64 a1] rfl (by (try simp only [List.map_toArray, List.map_cons, List.map_nil]); first | done | rfl | (simp only [List.length_drop, List.length_take]; rfl)) ?_; (with_reducible refine (windrowref01_Power.calls k a1 t150 _ A3.out).mono ?_); rintro e w' ⟨rfl, ⟨nd, rfl⟩⟩; refine ⟨_, rfl, ?_⟩))
    go_ret
    exact ⟨by first | rfl | (simp; done) | (simp [*]; done), by repeat (first | exact Drawn0.refl _ | apply Drawn0.step)⟩

/-! ### windrowref01_Places: function 18 -/
def windrowref01_Places.l0 : Nat → Int → List Int → Int → Option (List Int)
  | 0, _, _, _ => none
  | k + 1, x0, x3, x4 => if x4 < 64 then ((windrowref01_Bit.f k x0 x4).bind fun t151 => (if t151 = 1 then (if x3.length < 17592186044416 then (windrowref01_Places.l0 k x0 (x3 ++ [x4]) (wrap64 (x4 + 1))) else (none)) else (windrowref01_Places.l0 k x0 x3 (wrap64 (x4 + 1))))) else (some x3)
def windrowref01_Places.f (k : Nat) (a0 : Int) : Option (List Int) := windrowref01_Places.l0 k a0 ([] : List Int) 0
theorem windrowref01_Places.mono_l : ∀ k, (∀ y0 y1 y2, LeO (windrowref01_Places.l0 k y0 y1 y2) (windrowref01_Places.l0 (k + 1) y0 y1 y2))
  | 0 => fun _ _ _ r h => by simp [windrowref01_Places.l0] at h
  | k + 1 => by
    have ih0 := windrowref01_Places.mono_l k
    · intro y0 y1 y2
      unfold windrowref01_Places.l0
      repeat' first
      | (with_reducible exact ih0 _ _ _)
      | (with_reducible exact windrowref01_Bit.mono _ _ _)
      | (with_reducible exact LeO.refl _)
      | (with_reducible exact LeO.none _)
      | (with_reducible refine LeO.ite ?_ ?_)
      | (with_reducible refine LeO.bind ?_ (fun _ => ?_))
      | exact ih0 _ _ _
      | exact windrowref01_Bit.mono _ _ _
      | exact LeO.none _
      | refine LeO.ite ?_ ?_
      | refine LeO.bind ?_ (fun _ => ?_)
theorem windrowref01_Places.mono : ∀ a0 k, LeO (windrowref01_Places.f k a0) (windrowref01_Places.f (k + 1) a0) := by
  intro a0 k
  have ih0 := windrowref01_Places.mono_l k
  unfold windrowref01_Places.f
  repeat' first
      | (with_reducible exact ih0 _ _ _)
      | (with_reducible exact windrowref01_Bit.mono _ _ _)
      | (with_reducible exact LeO.refl _)
      | (with_reducible exact LeO.none _)
      | (with_reducible refine LeO.ite ?_ ?_)
      | (with_reducible refine LeO.bind ?_ (fun _ => ?_))
      | exact ih0 _ _ _
      | exact windrowref01_Bit.mono _ _ _
      | exact LeO.none _
      | refine LeO.ite ?_ ?_
      | refine LeO.bind ?_ (fun _ => ?_)
set_option maxHeartbeats 8000000 in
set_option maxRecDepth 100000 in
theorem windrowref01_Places.calls (k : Nat) (a0 : Int) (r : List Int) (w : World) (h : windrowref01_Places.f k a0 = some r) :
    Calls Tryd.prog 18 #[.int .u64 a0] w fun e w' => ∃ v0_ : Value, e = .returned (v0_) ∧ Kd.R (Kd.int .i64) 3 w' w.heap.size (fun _ => True) v0_ r ∧ Below w.heap.size w w' := by
  have HB := Aside0.mk (Below.refl w.heap.size w)
  have H : (windrowref01_Places.l0 k a0 ([] : List Int) 0) = some r := h
  clear h
  have H' := Aside0.mk H
  clear H
  go_enter Tryd.func18, Tryd.ntmps18
  go_wp2
  go_loopg [3, 4] k (fun kq v3 v4 w' => ∃ (x3_1 : List Int) (x4_1 : Int), v4 = .int .i64 x4_1 ∧ Aside0 (windrowref01_Places.l0 kq a0 x3_1 x4_1 = some r) ∧ Aside0 (kq ≤ k) ∧ Aside0 (Kd.R (Kd.int .i64) 3 w' w.heap.size (fun _ => True) v3 x3_1) ∧ Aside0 (Below w.heap.size w w'))
  case atStart => exact ⟨(([] : List Int)), (0), (by first | rfl | (simp; done) | (simp [*]; done)), H', ⟨Nat.le_refl _⟩, ⟨by first | exact Kd.R_nil _ _ _ _ _ | exact Kd.N_nil _ _ _ _ _ | exact Kd.V_nil _ _ _ _ _ | exact Kd.Q_nil _ _ _ _ _ | exact Kd.S_nil _ _ _ _ _⟩, ⟨by repeat (first | (with_reducible first | exact HB.out | apply below_alloc | apply pw_below_drewN | apply below_drew1) | exact HB.out)⟩⟩
  case round =>
    clear H'
    try clear c1
    obtain ⟨x3_1, x4_1, rfl, HA, HK1, HO_3, HB⟩ := hrel
    cases gk with
    | zero => exact absurd HA.out (by simp [windrowref01_Places.l0])
    | succ k1 =>
      have H := HA.out
      clear HA
      simp only [windrowref01_Places.l0] at H
      by_cases c2 : x4_1 < 64
      · rw [if_pos c2] at H
        have c2b0 : decide (x4_1 < 64) = true := decide_eq_true c2
        clear c2
        replace H := Option.bind_eq_some_iff.mp H
        obtain ⟨t151, A30, H⟩ := H
        replace H : (if t151 = 1 then (if x3_1.length < 17592186044416 then (windrowref01_Places.l0 k1 a0 (x3_1 ++ [x4_1]) (wrap64 (x4_1 + 1))) else (none)) else (windrowref01_Places.l0 k1 a0 x3_1 (wrap64 (x4_1 + 1)))) = some r := H
        have A3 := Aside0.mk A30
        clear A30
        by_cases c4 : t151 = 1
        · rw [if_pos c4] at H
          have c4b0 : (t151 == 1) = true := beq_iff_eq.mpr c4
          have c4b1 : (t151 != 1) = false := bne_eq_false_iff_eq.mpr c4
          clear c4
          by_cases c5 : x3_1.length < 17592186044416
          · rw [if_pos c5] at H
            have LMc5 := Aside0.mk c5
            clear c5
            obtain ⟨y152, hy152⟩ : ∃ y_ : List Int, y_ = (x3_1 ++ [x4_1]) := ⟨_, rfl⟩
            replace H : (windrowref01_Places.l0 k1 a0 y152 (wrap64 (x4_1 + 1))) = some r := by first | (rw [hy152]; with_reducible exact H) | (have H2_ := (Option.bind_some _ _).symm.trans H; rw [hy152]; with_reducible exact H2_) | (have H2_ := (Option.bind_some _ _).symm.trans H; with_reducible exact H2_) | with_reducible exact H | (rw [hy152]; exact H) | exact H
            have Ny152 := Aside0.mk hy152
            clear hy152
            have H' := Aside0.mk H
            clear H
            go_wp2_with (first | ((with_reducible refine gate_callee (f := 37) rfl ?_); refine goesL_ (some 11) rfl rfl Tryd.func37 (by kernel_rfl) rfl #[.int .u64 a0, .int .i64 x4_1] rfl (by (try simp only [List.map_toArray, List.map_cons, List.map_nil]); first | done | rfl | (simp only [List.length_drop, List.length_take]; rfl)) ?_; (with_reducible refine (windrowref01_Bit.calls k1 a0 x4_1 t151 _ A3.out).mono ?_); rintro e w' ⟨rfl, ⟨nd, rfl⟩⟩; refine ⟨_, rfl, ?_⟩) | ((with_reducible refine gate_builtin (b := .append) (xs := #[.tmp 13, .tmp 15]) rfl ?_); at_builtin; refine Kd.R_append (Kd.int .i64) (w0 := w) w.heap.size rfl (.tmp 13) (.tmp 15) 33 3 (.int .i64 0) 8 rfl Tryd.underlying33 info3 rfl (by decide) (by omega) u3 x3_1 x4_1 [.int .i64 x4_1] (fun _ => True) (fun _ => False) rfl rfl ?aP (fun _ hk => hk.elim) ?aF ?aO ?aB ?aS ?aL ?_; (case aP => exact rfl); (case aB => exact (by repeat (first | (with_reducible first | exact HB.out | apply below_alloc | apply pw_below_drewN | apply below_drew1) | exact HB.out))); (case aF => exact (fun _ _ => trivial)); (case aO => exact (by (with_reducible repeat (first | apply Kd.R_alloc | apply Kd.R_drewN | apply Kd.R_drew)); exact HO_3.out)); (case aS => exact (below_size (by repeat (first | (with_reducible first | exact HB.out | apply below_alloc | apply pw_below_drewN | apply below_drew1) | exact HB.out)))); (case aL => have := LMc5.out; omega); intro v153 w6 ho hb hg hat; rw [← Ny152.out] at ho; have n0_ := Aside0.mk (hb); have n1_ := Aside0.mk (ho); clear HB; clear HO_3; have HB := n0_; have HO154 := n1_; clear n0_ n1_; clear ho hb hg hat))
            go_roundg k1
            case measure => have := HK1.out; omega
            case rel => exact ⟨(y152), (wrap64 (x4_1 + 1)), (by first | rfl | (simp; done) | (simp [*]; done)), H', ⟨by have := HK1.out; omega⟩, ⟨by (with_reducible repeat (first | apply Kd.R_alloc | apply Kd.R_drewN | apply Kd.R_drew)); exact HO154.out⟩, ⟨by repeat (first | (with_reducible first | exact HB.out | apply below_alloc | apply pw_below_drewN | apply below_drew1) | exact HB.out)⟩⟩
          · rw [if_neg c5] at H
            exact absurd H (by simp)
        · rw [if_neg c4] at H
          have c4b0 : (t151 == 1) = false := beq_eq_false_iff_ne.mpr c4
          have c4b1 : (t151 != 1) = true := bne_iff_ne.mpr c4
          have H' := Aside0.mk H
          clear H
          go_wp2_with (first | ((with_reducible refine gate_callee (f := 37) rfl ?_); refine goesL_ (some 11) rfl rfl Tryd.func37 (by kernel_rfl) rfl #[.int .u64 a0, .int .i64 x4_1] rfl (by (try simp only [List.map_toArray, List.map_cons, List.map_nil]); first | done | rfl | (simp only [List.length_drop, List.length_take]; rfl)) ?_; (with_reducible refine (windrowref01_Bit.calls k1 a0 x4_1 t151 _ A3.out).mono ?_); rintro e w' ⟨rfl, ⟨nd, rfl⟩⟩; refine ⟨_, rfl, ?_⟩))
          go_roundg k1
          case measure => have := HK1.out; omega
          case rel => exact ⟨(x3_1), (wrap64 (x4_1 + 1)), (by first | rfl | (simp; done) | (simp [*]; done)), H', ⟨by have := HK1.out; omega⟩, ⟨by (with_reducible repeat (first | apply Kd.R_alloc | apply Kd.R_drewN | apply Kd.R_drew)); exact HO_3.out⟩, ⟨by repeat (first | (with_reducible first | exact HB.out | apply below_alloc | apply pw_below_drewN | apply below_drew1) | exact HB.out)⟩⟩
      · rw [if_neg c2] at H
        have c2b0 : decide (x4_1 < 64) = false := decide_eq_false c2
        clear c2
        obtain rfl := Option.some.inj H
        go_wp2
        go_ret
        exact ⟨_, by first | rfl | (simp [errW_none, errW_some] <;> rfl) | (simp [*, errW_none, errW_some] <;> rfl), by (with_reducible repeat (first | apply Kd.R_alloc | apply Kd.R_drewN | apply Kd.R_drew)); exact HO_3.out, by repeat (first | (with_reducible first | exact HB.out | apply below_alloc | apply pw_below_drewN | apply below_drew1) | exact HB.out)⟩

end Go.Proofs.YtjakjaohgndebaaDoor.PAll

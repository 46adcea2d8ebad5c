-- Written by a program of the prover's (mp.py). Not trusted: Lean checks it.
import Derived.Test.YtjakjaohgndebaaDoorPAllx0
import Derived.Test.YtjakjaohgndebaaDoorPAllx1
import Derived.Test.YtjakjaohgndebaaDoorPAllx3
namespace Go.Proofs.YtjakjaohgndebaaDoor.PAll
open Go.RowKit Go.Proofs.YtjakjaohgndebaaDoorW.PrintWords Go.Proofs.YtjakjaohgndebaaDoorW.PrintLast Go.Proofs.YtjakjaohgndebaaDoorW.PrintMore
attribute [local go_sem] max2_int min2_int max_two min_two max_three min_three max_four min_four   -- for this text's walks alone
set_option linter.unusedVariables false
set_option linter.unusedSimpArgs false

/-! ### windrowref05_Fills: function 26 -/
def windrowref05_Fills.j0 : Nat → Int → Int → Int → Bool → Option (Int × Int)
  | 0, _, _, _, _ => none
  | k + 1, x0, x1, x6, x23 => if x23 = true then (some (0, 1)) else (if x6 > 0 then (if x6 = 0 then (none) else (some (wrap64 (Int.tdiv x1 x6), 0))) else ((windrowref05_Class.f k x0).bind fun bt177 => ((windrowref05_Begins.f k bt177.1).bind fun t179 => (some (wrap64 (x1 * (t179.length : Int)), 0)))))
def windrowref05_Fills.f (k : Nat) (a0 : Int) (a1 : Int) : Option (Int × Int) := (windrowref05_Pages.f k a0).bind fun bt175 => (if bt175.2 = 0 then (if a1 < 0 then (windrowref05_Fills.j0 k a0 a1 bt175.1 true) else (windrowref05_Fills.j0 k a0 a1 bt175.1 (decide (a1 > 32)))) else (some (0, bt175.2)))
theorem windrowref05_Fills.mono_l : ∀ k, (∀ y0 y1 y2 y3, LeO (windrowref05_Fills.j0 k y0 y1 y2 y3) (windrowref05_Fills.j0 (k + 1) y0 y1 y2 y3))
  | 0 => fun _ _ _ _ r h => by simp [windrowref05_Fills.j0] at h
  | k + 1 => by
    have ih0 := windrowref05_Fills.mono_l k
    · intro y0 y1 y2 y3
      unfold windrowref05_Fills.j0
      repeat' first
      | (with_reducible exact ih0 _ _ _ _)
      | (with_reducible exact windrowref05_Begins.mono _ _)
      | (with_reducible exact windrowref05_Class.mono _ _)
      | (with_reducible exact windrowref05_Pages.mono _ _)
      | (with_reducible exact LeO.refl _)
      | (with_reducible exact LeO.none _)
      | (with_reducible refine LeO.ite ?_ ?_)
      | (with_reducible refine LeO.bind ?_ (fun _ => ?_))
      | exact ih0 _ _ _ _
      | exact windrowref05_Begins.mono _ _
      | exact windrowref05_Class.mono _ _
      | exact windrowref05_Pages.mono _ _
      | exact LeO.none _
      | refine LeO.ite ?_ ?_
      | refine LeO.bind ?_ (fun _ => ?_)
theorem windrowref05_Fills.mono : ∀ a0 a1 k, LeO (windrowref05_Fills.f k a0 a1) (windrowref05_Fills.f (k + 1) a0 a1) := by
  intro a0 a1 k
  have ih0 := windrowref05_Fills.mono_l k
  unfold windrowref05_Fills.f
  repeat' first
      | (with_reducible exact ih0 _ _ _ _)
      | (with_reducible exact windrowref05_Begins.mono _ _)
      | (with_reducible exact windrowref05_Class.mono _ _)
      | (with_reducible exact windrowref05_Pages.mono _ _)
      | (with_reducible exact LeO.refl _)
      | (with_reducible exact LeO.none _)
      | (with_reducible refine LeO.ite ?_ ?_)
      | (with_reducible refine LeO.bind ?_ (fun _ => ?_))
      | exact ih0 _ _ _ _
      | exact windrowref05_Begins.mono _ _
      | exact windrowref05_Class.mono _ _
      | exact windrowref05_Pages.mono _ _
      | exact LeO.none _
      | refine LeO.ite ?_ ?_
      | refine LeO.bind ?_ (fun _ => ?_)
set_option maxHeartbeats 8000000 in
set_option maxRecDepth 100000 in
theorem windrowref05_Fills.calls (k : Nat) (a0 : Int) (a1 : Int) (r1 : Int) (r2 : Int) (w : World) (h : windrowref05_Fills.f k a0 a1 = some (r1, r2)) :
    Calls Tryd.prog 26 #[.int .i64 a0, .int .i64 a1] w fun e w' => e = .returned (.tuple #[.int .i64 r1, .int .i64 r2]) ∧ Below w.heap.size w w' := by
  have HB := Aside0.mk (Below.refl w.heap.size w)
  have H : ((windrowref05_Pages.f k a0).bind fun bt175 => (if bt175.2 = 0 then (if a1 < 0 then (windrowref05_Fills.j0 k a0 a1 bt175.1 true) else (windrowref05_Fills.j0 k a0 a1 bt175.1 (decide (a1 > 32)))) else (some (0, bt175.2)))) = some (r1, r2) := h
  clear h
  replace H := Option.bind_eq_some_iff.mp H
  obtain ⟨⟨t175, t176⟩, A30, H⟩ := H
  replace H : (if t176 = 0 then (if a1 < 0 then (windrowref05_Fills.j0 k a0 a1 t175 true) else (windrowref05_Fills.j0 k a0 a1 t175 (decide (a1 > 32)))) else (some (0, t176))) = some (r1, r2) := H
  have A3 := Aside0.mk A30
  clear A30
  by_cases c4 : t176 = 0
  · rw [if_pos c4] at H
    have c4b0 : (t176 == 0) = true := beq_iff_eq.mpr c4
    have c4b1 : (t176 != 0) = false := bne_eq_false_iff_eq.mpr c4
    clear c4
    have HC5 := Aside0.mk H
    clear H
    go_enter Tryd.func26, Tryd.ntmps26
    go_upto_region 4 with (first | ((with_reducible refine gate_callee (f := 22) rfl ?_); refine goesL_ (some 12) rfl rfl Tryd.func22 (by kernel_rfl) rfl #[.int .i64 a0] rfl (by (try simp only [List.map_toArray, List.map_cons, List.map_nil]); first | done | rfl | (simp only [List.length_drop, List.length_take]; rfl)) ?_; (with_reducible refine (windrowref05_Pages.calls k a0 t175 t176 _ A3.out).mono ?_); rintro e w' ⟨rfl, ⟨nd, rfl⟩⟩; refine ⟨_, rfl, ?_⟩))
    (try simp only [Act.put, List.setIfInBounds_toArray, List.set_cons_zero, List.set_cons_succ])
    go_cut [23] (fun v23 wc => ∃ (kq : Nat) (x23_4 : Bool), v23 = .bool x23_4 ∧ Aside0 (windrowref05_Fills.j0 kq a0 a1 t175 x23_4 = some (r1, r2)) ∧ Aside0 (kq ≤ k) ∧ Aside0 (Below w.heap.size w wc))
    case first =>
      have H := HC5.out
      clear HC5
      by_cases c6 : a1 < 0
      · rw [if_pos c6] at H
        have c6b0 : decide (a1 < 0) = true := decide_eq_true c6
        clear c6
        (first | rw [c6b0] | (simp only [i64_w, i32_w]; rw [c6b0]) | skip)
        have H' := Aside0.mk H
        clear H
        go_wp2
        go_meet
        case rel => exact ⟨_, (true), (by first | rfl | (simp; done) | (simp [*]; done)), H', ⟨by first | omega | exact Nat.le_refl _⟩, ⟨by repeat (first | (with_reducible first | exact HB.out | apply below_alloc | apply pw_below_drewN | apply below_drew1) | exact HB.out)⟩⟩
      · rw [if_neg c6] at H
        have c6b0 : decide (a1 < 0) = false := decide_eq_false c6
        clear c6
        (first | rw [c6b0] | (simp only [i64_w, i32_w]; rw [c6b0]) | skip)
        have H' := Aside0.mk H
        clear H
        go_wp2
        go_meet
        case rel => exact ⟨_, (decide (a1 > 32)), (by first | rfl | (simp; done) | (simp [*]; done)), H', ⟨by first | omega | exact Nat.le_refl _⟩, ⟨by repeat (first | (with_reducible first | exact HB.out | apply below_alloc | apply pw_below_drewN | apply below_drew1) | exact HB.out)⟩⟩
    case rest =>
      clear HC5
      try clear c2
      try clear p2
      try clear c4
      try clear c4b0
      try clear c4b1
      try clear c6
      try clear c6b0
      obtain ⟨kq, x23_4, rfl, HA, HJ4, HB⟩ := hcut
      cases kq with
      | zero => exact absurd HA.out (by simp [windrowref05_Fills.j0])
      | succ kj4 =>
        have H := HA.out
        clear HA
        simp only [windrowref05_Fills.j0] at H
        by_cases c7 : x23_4 = true
        · subst c7
          have H1 : (some (0, 1)) = some (r1, r2) := by rw [if_pos rfl] at H; exact H
          clear H
          have H := H1
          clear H1
          simp only [Option.some.injEq, Prod.mk.injEq] at H
          obtain ⟨rfl, rfl⟩ := H
          go_wp2
          go_ret2
          exact ⟨by first | rfl | (simp [errW_none, errW_some] <;> rfl) | (simp [*, errW_none, errW_some] <;> rfl), by repeat (first | (with_reducible first | exact HB.out | apply below_alloc | apply pw_below_drewN | apply below_drew1) | exact HB.out)⟩
        · replace c7 := Bool.eq_false_iff.mpr c7
          subst c7
          have H1 : (if t175 > 0 then (if t175 = 0 then (none) else (some (wrap64 (Int.tdiv a1 t175), 0))) else ((windrowref05_Class.f kj4 a0).bind fun bt177 => ((windrowref05_Begins.f kj4 bt177.1).bind fun t179 => (some (wrap64 (a1 * (t179.length : Int)), 0))))) = some (r1, r2) := by rw [if_neg (show ¬ (false = true) by decide)] at H; exact H
          clear H
          have H := H1
          clear H1
          by_cases c8 : t175 > 0
          · rw [if_pos c8] at H
            have c8b0 : decide (0 < t175) = true := decide_eq_true c8
            clear c8
            by_cases c9 : t175 = 0
            · rw [if_pos c9] at H
              exact absurd H (by simp)
            · rw [if_neg c9] at H
              have c9b0 : (t175 == 0) = false := beq_eq_false_iff_ne.mpr c9
              have c9b1 : (t175 != 0) = true := bne_iff_ne.mpr c9
              simp only [Option.some.injEq, Prod.mk.injEq] at H
              obtain ⟨rfl, rfl⟩ := H
              go_wp2
              go_ret2
              exact ⟨by first | rfl | (simp [errW_none, errW_some] <;> rfl) | (simp [*, errW_none, errW_some] <;> rfl), by repeat (first | (with_reducible first | exact HB.out | apply below_alloc | apply pw_below_drewN | apply below_drew1) | exact HB.out)⟩
          · rw [if_neg c8] at H
            have c8b0 : decide (0 < t175) = false := decide_eq_false c8
            clear c8
            replace H := Option.bind_eq_some_iff.mp H
            obtain ⟨⟨t177, t178⟩, A100, H⟩ := H
            replace H : ((windrowref05_Begins.f kj4 t177).bind fun t179 => (some (wrap64 (a1 * (t179.length : Int)), 0))) = some (r1, r2) := H
            have A10 := Aside0.mk A100
            clear A100
            replace H := Option.bind_eq_some_iff.mp H
            obtain ⟨t179, A110, H⟩ := H
            replace H : (some (wrap64 (a1 * (t179.length : Int)), 0)) = some (r1, r2) := H
            have A11 := Aside0.mk A110
            clear A110
            simp only [Option.some.injEq, Prod.mk.injEq] at H
            obtain ⟨rfl, rfl⟩ := H
            go_wp2_with (first | ((with_reducible refine gate_callee (f := 20) rfl ?_); refine goesL_ (some 31) rfl rfl Tryd.func20 (by kernel_rfl) rfl #[.int .i64 a0] rfl (by (try simp only [List.map_toArray, List.map_cons, List.map_nil]); first | done | rfl | (simp only [List.length_drop, List.length_take]; rfl)) ?_; (with_reducible refine (windrowref05_Class.calls kj4 a0 t177 t178 _ A10.out).mono ?_); rintro e w12 ⟨rfl, hb⟩; refine ⟨_, rfl, ?_⟩; have n0_ := Aside0.mk (below_step (by repeat (first | (with_reducible first | exact HB.out | apply below_alloc | apply pw_below_drewN | apply below_drew1) | exact HB.out)) hb); clear HB; have HB := n0_; clear n0_; (try clear hb); (try clear hb2); (try clear hk); (try clear hi)) | ((with_reducible refine gate_callee (f := 16) rfl ?_); refine goesL_ (some 36) rfl rfl Tryd.func16 (by kernel_rfl) rfl #[.int .i64 t177] rfl (by (try simp only [List.map_toArray, List.map_cons, List.map_nil]); first | done | rfl | (simp only [List.length_drop, List.length_take]; rfl)) ?_; (with_reducible refine (windrowref05_Begins.calls kj4 t177 t179 _ A11.out).mono ?_); rintro e w13 ⟨v180, rfl, ho0, hb⟩; refine ⟨_, rfl, ?_⟩; have n0_ := Aside0.mk (Kd.R_lower ho0 (below_size (by repeat (first | (with_reducible first | exact HB.out | apply below_alloc | apply pw_below_drewN | apply below_drew1) | exact HB.out)))); have n1_ := Aside0.mk (below_step (by repeat (first | (with_reducible first | exact HB.out | apply below_alloc | apply pw_below_drewN | apply below_drew1) | exact HB.out)) hb); clear HB; have HO181 := n0_; have HB := n1_; clear n0_ n1_; (try clear hb); (try clear hb2); (try clear hk); (try clear hi); (try clear ho0); obtain ⟨Ao14, co14, eo14⟩ := Kd.R_slice HO181.out; subst eo14))
            go_ret2
            exact ⟨by first | rfl | (simp [errW_none, errW_some] <;> rfl) | (simp [*, errW_none, errW_some] <;> rfl), by repeat (first | (with_reducible first | exact HB.out | apply below_alloc | apply pw_below_drewN | apply below_drew1) | exact HB.out)⟩
  · rw [if_neg c4] at H
    have c4b0 : (t176 == 0) = false := beq_eq_false_iff_ne.mpr c4
    have c4b1 : (t176 != 0) = true := bne_iff_ne.mpr c4
    simp only [Option.some.injEq, Prod.mk.injEq] at H
    obtain ⟨rfl, rfl⟩ := H
    go_enter Tryd.func26, Tryd.ntmps26
    go_wp2_with (first | ((with_reducible refine gate_callee (f := 22) rfl ?_); refine goesL_ (some 12) rfl rfl Tryd.func22 (by kernel_rfl) rfl #[.int .i64 a0] rfl (by (try simp only [List.map_toArray, List.map_cons, List.map_nil]); first | done | rfl | (simp only [List.length_drop, List.length_take]; rfl)) ?_; (with_reducible refine (windrowref05_Pages.calls k a0 t175 t176 _ A3.out).mono ?_); rintro e w' ⟨rfl, ⟨nd, rfl⟩⟩; refine ⟨_, rfl, ?_⟩))
    go_ret2
    exact ⟨by first | rfl | (simp [errW_none, errW_some] <;> rfl) | (simp [*, errW_none, errW_some] <;> rfl), by repeat (first | (with_reducible first | exact HB.out | apply below_alloc | apply pw_below_drewN | apply below_drew1) | exact HB.out)⟩

/-! ### windrowlaw05_SizesChooses: function 6 -/
def windrowlaw05_SizesChooses.f (k : Nat) (a0 : Int) (a1 : Int) : Option (Bool) := (sizes_Class.f a0).bind fun bt182 => ((windrowref05_Class.f k a0).bind fun bt184 => ((sizes_Pages.f a0).bind fun bt186 => ((windrowref05_Pages.f k a0).bind fun bt188 => ((sizes_Rounds.f a0).bind fun bt190 => ((windrowref05_Rounds.f k a0).bind fun bt192 => ((sizes_Fills.f a0 a1).bind fun bt194 => ((windrowref05_Fills.f k a0 a1).bind fun bt196 => ((windrowlaw05_sized.f).bind fun t198 => (if t198 = true then (if bt182.1 = bt184.1 then (if bt182.2 = bt184.2 then (if bt186.1 = bt188.1 then (if bt186.2 = bt188.2 then (if bt190.1 = bt192.1 then (if bt190.2 = bt192.2 then (if bt194.1 = bt196.1 then (some (bt194.2 == bt196.2)) else (some false)) else (some false)) else (some false)) else (some false)) else (some false)) else (some false)) else (some false)) else (some false))))))))))
theorem windrowlaw05_SizesChooses.mono : ∀ a0 a1 k, LeO (windrowlaw05_SizesChooses.f k a0 a1) (windrowlaw05_SizesChooses.f (k + 1) a0 a1) := by
  intro a0 a1 k
  unfold windrowlaw05_SizesChooses.f
  repeat' first
      | (with_reducible exact windrowref05_Class.mono _ _)
      | (with_reducible exact windrowref05_Fills.mono _ _ _)
      | (with_reducible exact windrowref05_Pages.mono _ _)
      | (with_reducible exact windrowref05_Rounds.mono _ _)
      | (with_reducible exact LeO.refl _)
      | (with_reducible exact LeO.none _)
      | (with_reducible refine LeO.ite ?_ ?_)
      | (with_reducible refine LeO.bind ?_ (fun _ => ?_))
      | exact windrowref05_Class.mono _ _
      | exact windrowref05_Fills.mono _ _ _
      | exact windrowref05_Pages.mono _ _
      | exact windrowref05_Rounds.mono _ _
      | exact LeO.none _
      | refine LeO.ite ?_ ?_
      | refine LeO.bind ?_ (fun _ => ?_)
set_option maxHeartbeats 8000000 in
set_option maxRecDepth 100000 in
theorem windrowlaw05_SizesChooses.calls (k : Nat) (a0 : Int) (a1 : Int) (r : Bool) (w : World) (HTRUE_ : Aside0 (r = true)) (HL_ : Aside0 (LAID w)) (h : windrowlaw05_SizesChooses.f k a0 a1 = some r) :
    Calls Tryd.prog 6 #[.int .i64 a0, .int .i64 a1] w fun e w' => e = .returned (.bool r) ∧ Below w.heap.size w w' := by
  have HB := Aside0.mk (Below.refl w.heap.size w)
  have H : ((sizes_Class.f a0).bind fun bt182 => ((windrowref05_Class.f k a0).bind fun bt184 => ((sizes_Pages.f a0).bind fun bt186 => ((windrowref05_Pages.f k a0).bind fun bt188 => ((sizes_Rounds.f a0).bind fun bt190 => ((windrowref05_Rounds.f k a0).bind fun bt192 => ((sizes_Fills.f a0 a1).bind fun bt194 => ((windrowref05_Fills.f k a0 a1).bind fun bt196 => ((windrowlaw05_sized.f).bind fun t198 => (if t198 = true then (if bt182.1 = bt184.1 then (if bt182.2 = bt184.2 then (if bt186.1 = bt188.1 then (if bt186.2 = bt188.2 then (if bt190.1 = bt192.1 then (if bt190.2 = bt192.2 then (if bt194.1 = bt196.1 then (some (bt194.2 == bt196.2)) else (some false)) else (some false)) else (some false)) else (some false)) else (some false)) else (some false)) else (some false)) else (some false))))))))))) = some r := h
  clear h
  replace H := Option.bind_eq_some_iff.mp H
  obtain ⟨⟨t182, t183⟩, A30, H⟩ := H
  replace H : ((windrowref05_Class.f k a0).bind fun bt184 => ((sizes_Pages.f a0).bind fun bt186 => ((windrowref05_Pages.f k a0).bind fun bt188 => ((sizes_Rounds.f a0).bind fun bt190 => ((windrowref05_Rounds.f k a0).bind fun bt192 => ((sizes_Fills.f a0 a1).bind fun bt194 => ((windrowref05_Fills.f k a0 a1).bind fun bt196 => ((windrowlaw05_sized.f).bind fun t198 => (if t198 = true then (if t182 = bt184.1 then (if t183 = bt184.2 then (if bt186.1 = bt188.1 then (if bt186.2 = bt188.2 then (if bt190.1 = bt192.1 then (if bt190.2 = bt192.2 then (if bt194.1 = bt196.1 then (some (bt194.2 == bt196.2)) else (some false)) else (some false)) else (some false)) else (some false)) else (some false)) else (some false)) else (some false)) else (some false)))))))))) = some r := H
  have A3 := Aside0.mk A30
  clear A30
  replace H := Option.bind_eq_some_iff.mp H
  obtain ⟨⟨t184, t185⟩, A40, H⟩ := H
  replace H : ((sizes_Pages.f a0).bind fun bt186 => ((windrowref05_Pages.f k a0).bind fun bt188 => ((sizes_Rounds.f a0).bind fun bt190 => ((windrowref05_Rounds.f k a0).bind fun bt192 => ((sizes_Fills.f a0 a1).bind fun bt194 => ((windrowref05_Fills.f k a0 a1).bind fun bt196 => ((windrowlaw05_sized.f).bind fun t198 => (if t198 = true then (if t182 = t184 then (if t183 = t185 then (if bt186.1 = bt188.1 then (if bt186.2 = bt188.2 then (if bt190.1 = bt192.1 then (if bt190.2 = bt192.2 then (if bt194.1 = bt196.1 then (some (bt194.2 == bt196.2)) else (some false)) else (some false)) else (some false)) else (some false)) else (some false)) else (some false)) else (some false)) else (some false))))))))) = some r := H
  have A4 := Aside0.mk A40
  clear A40
  replace H := Option.bind_eq_some_iff.mp H
  obtain ⟨⟨t186, t187⟩, A50, H⟩ := H
  replace H : ((windrowref05_Pages.f k a0).bind fun bt188 => ((sizes_Rounds.f a0).bind fun bt190 => ((windrowref05_Rounds.f k a0).bind fun bt192 => ((sizes_Fills.f a0 a1).bind fun bt194 => ((windrowref05_Fills.f k a0 a1).bind fun bt196 => ((windrowlaw05_sized.f).bind fun t198 => (if t198 = true then (if t182 = t184 then (if t183 = t185 then (if t186 = bt188.1 then (if t187 = bt188.2 then (if bt190.1 = bt192.1 then (if bt190.2 = bt192.2 then (if bt194.1 = bt196.1 then (some (bt194.2 == bt196.2)) else (some false)) else (some false)) else (some false)) else (some false)) else (some false)) else (some false)) else (some false)) else (some false)))))))) = some r := H
  have A5 := Aside0.mk A50
  clear A50
  replace H := Option.bind_eq_some_iff.mp H
  obtain ⟨⟨t188, t189⟩, A60, H⟩ := H
  replace H : ((sizes_Rounds.f a0).bind fun bt190 => ((windrowref05_Rounds.f k a0).bind fun bt192 => ((sizes_Fills.f a0 a1).bind fun bt194 => ((windrowref05_Fills.f k a0 a1).bind fun bt196 => ((windrowlaw05_sized.f).bind fun t198 => (if t198 = true then (if t182 = t184 then (if t183 = t185 then (if t186 = t188 then (if t187 = t189 then (if bt190.1 = bt192.1 then (if bt190.2 = bt192.2 then (if bt194.1 = bt196.1 then (some (bt194.2 == bt196.2)) else (some false)) else (some false)) else (some false)) else (some false)) else (some false)) else (some false)) else (some false)) else (some false))))))) = some r := H
  have A6 := Aside0.mk A60
  clear A60
  replace H := Option.bind_eq_some_iff.mp H
  obtain ⟨⟨t190, t191⟩, A70, H⟩ := H
  replace H : ((windrowref05_Rounds.f k a0).bind fun bt192 => ((sizes_Fills.f a0 a1).bind fun bt194 => ((windrowref05_Fills.f k a0 a1).bind fun bt196 => ((windrowlaw05_sized.f).bind fun t198 => (if t198 = true then (if t182 = t184 then (if t183 = t185 then (if t186 = t188 then (if t187 = t189 then (if t190 = bt192.1 then (if t191 = bt192.2 then (if bt194.1 = bt196.1 then (some (bt194.2 == bt196.2)) else (some false)) else (some false)) else (some false)) else (some false)) else (some false)) else (some false)) else (some false)) else (some false)))))) = some r := H
  have A7 := Aside0.mk A70
  clear A70
  replace H := Option.bind_eq_some_iff.mp H
  obtain ⟨⟨t192, t193⟩, A80, H⟩ := H
  replace H : ((sizes_Fills.f a0 a1).bind fun bt194 => ((windrowref05_Fills.f k a0 a1).bind fun bt196 => ((windrowlaw05_sized.f).bind fun t198 => (if t198 = true then (if t182 = t184 then (if t183 = t185 then (if t186 = t188 then (if t187 = t189 then (if t190 = t192 then (if t191 = t193 then (if bt194.1 = bt196.1 then (some (bt194.2 == bt196.2)) else (some false)) else (some false)) else (some false)) else (some false)) else (some false)) else (some false)) else (some false)) else (some false))))) = some r := H
  have A8 := Aside0.mk A80
  clear A80
  replace H := Option.bind_eq_some_iff.mp H
  obtain ⟨⟨t194, t195⟩, A90, H⟩ := H
  replace H : ((windrowref05_Fills.f k a0 a1).bind fun bt196 => ((windrowlaw05_sized.f).bind fun t198 => (if t198 = true then (if t182 = t184 then (if t183 = t185 then (if t186 = t188 then (if t187 = t189 then (if t190 = t192 then (if t191 = t193 then (if t194 = bt196.1 then (some (t195 == bt196.2)) else (some false)) else (some false)) else (some false)) else (some false)) else (some false)) else (some false)) else (some false)) else (some false)))) = some r := H
  have A9 := Aside0.mk A90
  clear A90
  replace H := Option.bind_eq_some_iff.mp H
  obtain ⟨⟨t196, t197⟩, A100, H⟩ := H
  replace H : ((windrowlaw05_sized.f).bind fun t198 => (if t198 = true then (if t182 = t184 then (if t183 = t185 then (if t186 = t188 then (if t187 = t189 then (if t190 = t192 then (if t191 = t193 then (if t194 = t196 then (some (t195 == t197)) else (some false)) else (some false)) else (some false)) else (some false)) else (some false)) else (some false)) else (some false)) else (some false))) = some r := H
  have A10 := Aside0.mk A100
  clear A100
  replace H := Option.bind_eq_some_iff.mp H
  obtain ⟨t198, A110, H⟩ := H
  replace H : (if t198 = true then (if t182 = t184 then (if t183 = t185 then (if t186 = t188 then (if t187 = t189 then (if t190 = t192 then (if t191 = t193 then (if t194 = t196 then (some (t195 == t197)) else (some false)) else (some false)) else (some false)) else (some false)) else (some false)) else (some false)) else (some false)) else (some false)) = some r := H
  have A11 := Aside0.mk A110
  clear A110
  by_cases c12 : t198 = true
  · subst c12
    have H1 : (if t182 = t184 then (if t183 = t185 then (if t186 = t188 then (if t187 = t189 then (if t190 = t192 then (if t191 = t193 then (if t194 = t196 then (some (t195 == t197)) else (some false)) else (some false)) else (some false)) else (some false)) else (some false)) else (some false)) else (some false)) = some r := by rw [if_pos rfl] at H; exact H
    clear H
    have H := H1
    clear H1
    by_cases c13 : t182 = t184
    · rw [if_pos c13] at H
      have c13b0 : (t182 == t184) = true := beq_iff_eq.mpr c13
      have c13b1 : (t182 != t184) = false := bne_eq_false_iff_eq.mpr c13
      clear c13
      by_cases c14 : t183 = t185
      · rw [if_pos c14] at H
        have c14b0 : (t183 == t185) = true := beq_iff_eq.mpr c14
        have c14b1 : (t183 != t185) = false := bne_eq_false_iff_eq.mpr c14
        clear c14
        by_cases c15 : t186 = t188
        · rw [if_pos c15] at H
          have c15b0 : (t186 == t188) = true := beq_iff_eq.mpr c15
          have c15b1 : (t186 != t188) = false := bne_eq_false_iff_eq.mpr c15
          clear c15
          by_cases c16 : t187 = t189
          · rw [if_pos c16] at H
            have c16b0 : (t187 == t189) = true := beq_iff_eq.mpr c16
            have c16b1 : (t187 != t189) = false := bne_eq_false_iff_eq.mpr c16
            clear c16
            by_cases c17 : t190 = t192
            · rw [if_pos c17] at H
              have c17b0 : (t190 == t192) = true := beq_iff_eq.mpr c17
              have c17b1 : (t190 != t192) = false := bne_eq_false_iff_eq.mpr c17
              clear c17
              by_cases c18 : t191 = t193
              · rw [if_pos c18] at H
                have c18b0 : (t191 == t193) = true := beq_iff_eq.mpr c18
                have c18b1 : (t191 != t193) = false := bne_eq_false_iff_eq.mpr c18
                clear c18
                by_cases c19 : t194 = t196
                · rw [if_pos c19] at H
                  have c19b0 : (t194 == t196) = true := beq_iff_eq.mpr c19
                  have c19b1 : (t194 != t196) = false := bne_eq_false_iff_eq.mpr c19
                  clear c19
                  obtain rfl := Option.some.inj H
                  go_enter Tryd.func6, Tryd.ntmps6
                  go_wp2_with (first | ((with_reducible refine gate_callee (f := 17) rfl ?_); refine goesL_ (some 23) rfl rfl Tryd.func17 (by kernel_rfl) rfl #[.int .i64 a0] rfl (by (try simp only [List.map_toArray, List.map_cons, List.map_nil]); first | done | rfl | (simp only [List.length_drop, List.length_take]; rfl)) ?_; (with_reducible refine (sizes_Class.calls a0 t182 t183 _ ?side1 A3.out).mono ?_); (case side1 => exact ⟨LAID.below HL_.out (by repeat (first | (with_reducible first | exact HB.out | apply below_alloc | apply pw_below_drewN | apply below_drew1) | exact HB.out))⟩); rintro e w' ⟨rfl, ⟨nd, rfl⟩⟩; refine ⟨_, rfl, ?_⟩) | ((with_reducible refine gate_callee (f := 20) rfl ?_); refine goesL_ (some 28) rfl rfl Tryd.func20 (by kernel_rfl) rfl #[.int .i64 a0] rfl (by (try simp only [List.map_toArray, List.map_cons, List.map_nil]); first | done | rfl | (simp only [List.length_drop, List.length_take]; rfl)) ?_; (with_reducible refine (windrowref05_Class.calls k a0 t184 t185 _ A4.out).mono ?_); rintro e w20 ⟨rfl, hb⟩; refine ⟨_, rfl, ?_⟩; have n0_ := Aside0.mk (below_step (by repeat (first | (with_reducible first | exact HB.out | apply below_alloc | apply pw_below_drewN | apply below_drew1) | exact HB.out)) hb); clear HB; have HB := n0_; clear n0_; (try clear hb); (try clear hb2); (try clear hk); (try clear hi)) | ((with_reducible refine gate_callee (f := 21) rfl ?_); refine goesL_ (some 33) rfl rfl Tryd.func21 (by kernel_rfl) rfl #[.int .i64 a0] rfl (by (try simp only [List.map_toArray, List.map_cons, List.map_nil]); first | done | rfl | (simp only [List.length_drop, List.length_take]; rfl)) ?_; (with_reducible refine (sizes_Pages.calls a0 t186 t187 _ A5.out).mono ?_); rintro e w' ⟨rfl, ⟨nd, rfl⟩⟩; refine ⟨_, rfl, ?_⟩) | ((with_reducible refine gate_callee (f := 22) rfl ?_); refine goesL_ (some 38) rfl rfl Tryd.func22 (by kernel_rfl) rfl #[.int .i64 a0] rfl (by (try simp only [List.map_toArray, List.map_cons, List.map_nil]); first | done | rfl | (simp only [List.length_drop, List.length_take]; rfl)) ?_; (with_reducible refine (windrowref05_Pages.calls k a0 t188 t189 _ A6.out).mono ?_); rintro e w' ⟨rfl, ⟨nd, rfl⟩⟩; refine ⟨_, rfl, ?_⟩) | ((with_reducible refine gate_callee (f := 23) rfl ?_); refine goesL_ (some 43) rfl rfl Tryd.func23 (by kernel_rfl) rfl #[.int .i64 a0] rfl (by (try simp only [List.map_toArray, List.map_cons, List.map_nil]); first | done | rfl | (simp only [List.length_drop, List.length_take]; rfl)) ?_; (with_reducible refine (sizes_Rounds.calls a0 t190 t191 _ ?side1 A7.out).mono ?_); (case side1 => exact ⟨LAID.below HL_.out (by repeat (first | (with_reducible first | exact HB.out | apply below_alloc | apply pw_below_drewN | apply below_drew1) | exact HB.out))⟩); rintro e w' ⟨rfl, ⟨nd, rfl⟩⟩; refine ⟨_, rfl, ?_⟩) | ((with_reducible refine gate_callee (f := 24) rfl ?_); refine goesL_ (some 48) rfl rfl Tryd.func24 (by kernel_rfl) rfl #[.int .i64 a0] rfl (by (try simp only [List.map_toArray, List.map_cons, List.map_nil]); first | done | rfl | (simp only [List.length_drop, List.length_take]; rfl)) ?_; (with_reducible refine (windrowref05_Rounds.calls k a0 t192 t193 _ A8.out).mono ?_); rintro e w21 ⟨rfl, hb⟩; refine ⟨_, rfl, ?_⟩; have n0_ := Aside0.mk (below_step (by repeat (first | (with_reducible first | exact HB.out | apply below_alloc | apply pw_below_drewN | apply below_drew1) | exact HB.out)) hb); clear HB; have HB := n0_; clear n0_; (try clear hb); (try clear hb2); (try clear hk); (try clear hi)) | ((with_reducible refine gate_callee (f := 25) rfl ?_); refine goesL_ (some 54) rfl rfl Tryd.func25 (by kernel_rfl) rfl #[.int .i64 a0, .int .i64 a1] rfl (by (try simp only [List.map_toArray, List.map_cons, List.map_nil]); first | done | rfl | (simp only [List.length_drop, List.length_take]; rfl)) ?_; (with_reducible refine (sizes_Fills.calls a0 a1 t194 t195 _ ?side1 A9.out).mono ?_); (case side1 => exact ⟨LAID.below HL_.out (by repeat (first | (with_reducible first | exact HB.out | apply below_alloc | apply pw_below_drewN | apply below_drew1) | exact HB.out))⟩); rintro e w' ⟨rfl, ⟨nd, rfl⟩⟩; refine ⟨_, rfl, ?_⟩) | ((with_reducible refine gate_callee (f := 26) rfl ?_); refine goesL_ (some 60) rfl rfl Tryd.func26 (by kernel_rfl) rfl #[.int .i64 a0, .int .i64 a1] rfl (by (try simp only [List.map_toArray, List.map_cons, List.map_nil]); first | done | rfl | (simp only [List.length_drop, List.length_take]; rfl)) ?_; (with_reducible refine (windrowref05_Fills.calls k a0 a1 t196 t197 _ A10.out).mono ?_); rintro e w22 ⟨rfl, hb⟩; refine ⟨_, rfl, ?_⟩; have n0_ := Aside0.mk (below_step (by repeat (first | (with_reducible first | exact HB.out | apply below_alloc | apply pw_below_drewN | apply below_drew1) | exact HB.out)) hb); clear HB; have HB := n0_; clear n0_; (try clear hb); (try clear hb2); (try clear hk); (try clear hi)) | ((with_reducible refine gate_callee (f := 15) rfl ?_); refine goesL_ (some 63) rfl rfl Tryd.func15 (by kernel_rfl) rfl #[] rfl (by (try simp only [List.map_toArray, List.map_cons, List.map_nil]); first | done | rfl | (simp only [List.length_drop, List.length_take]; rfl)) ?_; (with_reducible refine (windrowlaw05_sized.calls  true _ ?side1 A11.out).mono ?_); (case side1 => exact ⟨LAID.below HL_.out (by repeat (first | (with_reducible first | exact HB.out | apply below_alloc | apply pw_below_drewN | apply below_drew1) | exact HB.out))⟩); rintro e w23 ⟨rfl, hb⟩; refine ⟨_, rfl, ?_⟩; have n0_ := Aside0.mk (below_step (by repeat (first | (with_reducible first | exact HB.out | apply below_alloc | apply pw_below_drewN | apply below_drew1) | exact HB.out)) hb); clear HB; have HB := n0_; clear n0_; (try clear hb); (try clear hb2); (try clear hk); (try clear hi)))
                  go_ret
                  exact ⟨by first | rfl | (simp [errW_none, errW_some] <;> rfl) | (simp [*, errW_none, errW_some] <;> rfl), by repeat (first | (with_reducible first | exact HB.out | apply below_alloc | apply pw_below_drewN | apply below_drew1) | exact HB.out)⟩
                · rw [if_neg c19] at H
                  have c19b0 : (t194 == t196) = false := beq_eq_false_iff_ne.mpr c19
                  have c19b1 : (t194 != t196) = true := bne_iff_ne.mpr c19
                  exact absurd (H.trans (congrArg some HTRUE_.out)) (by simp)
              · rw [if_neg c18] at H
                have c18b0 : (t191 == t193) = false := beq_eq_false_iff_ne.mpr c18
                have c18b1 : (t191 != t193) = true := bne_iff_ne.mpr c18
                exact absurd (H.trans (congrArg some HTRUE_.out)) (by simp)
            · rw [if_neg c17] at H
              have c17b0 : (t190 == t192) = false := beq_eq_false_iff_ne.mpr c17
              have c17b1 : (t190 != t192) = true := bne_iff_ne.mpr c17
              exact absurd (H.trans (congrArg some HTRUE_.out)) (by simp)
          · rw [if_neg c16] at H
            have c16b0 : (t187 == t189) = false := beq_eq_false_iff_ne.mpr c16
            have c16b1 : (t187 != t189) = true := bne_iff_ne.mpr c16
            exact absurd (H.trans (congrArg some HTRUE_.out)) (by simp)
        · rw [if_neg c15] at H
          have c15b0 : (t186 == t188) = false := beq_eq_false_iff_ne.mpr c15
          have c15b1 : (t186 != t188) = true := bne_iff_ne.mpr c15
          exact absurd (H.trans (congrArg some HTRUE_.out)) (by simp)
      · rw [if_neg c14] at H
        have c14b0 : (t183 == t185) = false := beq_eq_false_iff_ne.mpr c14
        have c14b1 : (t183 != t185) = true := bne_iff_ne.mpr c14
        exact absurd (H.trans (congrArg some HTRUE_.out)) (by simp)
    · rw [if_neg c13] at H
      have c13b0 : (t182 == t184) = false := beq_eq_false_iff_ne.mpr c13
      have c13b1 : (t182 != t184) = true := bne_iff_ne.mpr c13
      exact absurd (H.trans (congrArg some HTRUE_.out)) (by simp)
  · replace c12 := Bool.eq_false_iff.mpr c12
    subst c12
    have H1 : (some false) = some r := by rw [if_neg (show ¬ (false = true) by decide)] at H; exact H
    clear H
    have H := H1
    clear H1
    exact absurd (H.trans (congrArg some HTRUE_.out)) (by simp)

/-- The pure statement of windrowlaw05_SizesChooses. -/
def windrowlaw05_SizesChooses.Pure : Prop := ∀ (a0 : Int) (a1 : Int), (Lit.int .i64 a0).wf = true → (Lit.int .i64 a1).wf = true → ∃ k, windrowlaw05_SizesChooses.f k a0 a1 = some true
theorem windrowlaw05_SizesChooses.walk (P : windrowlaw05_SizesChooses.Pure) (a0 : Int) (a1 : Int) (w : World) (w0 : (Lit.int .i64 a0).wf = true) (w1 : (Lit.int .i64 a1).wf = true) (HL : LAID w) :
    Calls Tryd.prog 6 #[.int .i64 a0, .int .i64 a1] w fun e w' => e = .returned (.bool true) ∧ Below w.heap.size w w' := by
  obtain ⟨k, h⟩ := P a0 a1 w0 w1
  refine (windrowlaw05_SizesChooses.calls k a0 a1 true w ⟨rfl⟩ ⟨HL⟩ h).mono ?_
  rintro e w' ⟨rfl, hd⟩
  exact ⟨rfl, hd⟩

/-! ### windrowlaw05_SizesRounds: function 7 -/
def windrowlaw05_SizesRounds.j0 : Nat → Int → Int → Int → Int → Int → Bool → Option (Bool)
  | 0, _, _, _, _, _, _ => none
  | k + 1, x0, x1, x5, x7, x9, x56 => if x56 = true then (some false) else (if x9 > 0 then (if x5 = (wrap64 (64 * x9)) then (if (wrap64 (x7 * x9)) ≤ x1 then (if (wrap64 ((wrap64 (x7 + 1)) * x9)) > x1 then (some (decide (x0 > (wrap64 (64 * (wrap64 (x9 - 1))))))) else (some false)) else (some false)) else (some false)) else ((sizes_Class.f x0).bind fun bt206 => ((sizes_Cells.f bt206.1).bind fun bt208 => (if bt206.2 = 0 then (if bt208.2 = 0 then (if x0 ≤ 32 then (if x7 = (wrap64 (bt208.1 * x1)) then (some (decide ((wrap64 (bt208.1 * x5)) ≤ 64))) else (some false)) else (some false)) else (some false)) else (some false)))))
def windrowlaw05_SizesRounds.f (k : Nat) (a0 : Int) (a1 : Int) : Option (Bool) := (sizes_Rounds.f (wrap64 (1 + (wrap64 (Int.tmod (IntKind.u64.wrap (a0)) 256))))).bind fun bt199 => ((sizes_Fills.f (wrap64 (1 + (wrap64 (Int.tmod (IntKind.u64.wrap (a0)) 256)))) (wrap64 (Int.tmod (IntKind.u64.wrap (a1)) 33))).bind fun bt201 => ((sizes_Pages.f (wrap64 (1 + (wrap64 (Int.tmod (IntKind.u64.wrap (a0)) 256))))).bind fun bt203 => ((windrowlaw05_sized.f).bind fun t205 => (if t205 = true then (if bt199.2 = 0 then (if bt201.2 = 0 then (if bt203.2 = 0 then (windrowlaw05_SizesRounds.j0 k (wrap64 (1 + (wrap64 (Int.tmod (IntKind.u64.wrap (a0)) 256)))) (wrap64 (Int.tmod (IntKind.u64.wrap (a1)) 33)) bt199.1 bt201.1 bt203.1 (decide (bt199.1 < (wrap64 (1 + (wrap64 (Int.tmod (IntKind.u64.wrap (a0)) 256))))))) else (windrowlaw05_SizesRounds.j0 k (wrap64 (1 + (wrap64 (Int.tmod (IntKind.u64.wrap (a0)) 256)))) (wrap64 (Int.tmod (IntKind.u64.wrap (a1)) 33)) bt199.1 bt201.1 bt203.1 true)) else (windrowlaw05_SizesRounds.j0 k (wrap64 (1 + (wrap64 (Int.tmod (IntKind.u64.wrap (a0)) 256)))) (wrap64 (Int.tmod (IntKind.u64.wrap (a1)) 33)) bt199.1 bt201.1 bt203.1 true)) else (windrowlaw05_SizesRounds.j0 k (wrap64 (1 + (wrap64 (Int.tmod (IntKind.u64.wrap (a0)) 256)))) (wrap64 (Int.tmod (IntKind.u64.wrap (a1)) 33)) bt199.1 bt201.1 bt203.1 true)) else (windrowlaw05_SizesRounds.j0 k (wrap64 (1 + (wrap64 (Int.tmod (IntKind.u64.wrap (a0)) 256)))) (wrap64 (Int.tmod (IntKind.u64.wrap (a1)) 33)) bt199.1 bt201.1 bt203.1 true)))))
theorem windrowlaw05_SizesRounds.mono_l : ∀ k, (∀ y0 y1 y2 y3 y4 y5, LeO (windrowlaw05_SizesRounds.j0 k y0 y1 y2 y3 y4 y5) (windrowlaw05_SizesRounds.j0 (k + 1) y0 y1 y2 y3 y4 y5))
  | 0 => fun _ _ _ _ _ _ r h => by simp [windrowlaw05_SizesRounds.j0] at h
  | k + 1 => by
    have ih0 := windrowlaw05_SizesRounds.mono_l k
    · intro y0 y1 y2 y3 y4 y5
      unfold windrowlaw05_SizesRounds.j0
      repeat' first
      | (with_reducible exact ih0 _ _ _ _ _ _)
      | (with_reducible exact LeO.refl _)
      | (with_reducible exact LeO.none _)
      | (with_reducible refine LeO.ite ?_ ?_)
      | (with_reducible refine LeO.bind ?_ (fun _ => ?_))
      | exact ih0 _ _ _ _ _ _
      | exact LeO.none _
      | refine LeO.ite ?_ ?_
      | refine LeO.bind ?_ (fun _ => ?_)
theorem windrowlaw05_SizesRounds.mono : ∀ a0 a1 k, LeO (windrowlaw05_SizesRounds.f k a0 a1) (windrowlaw05_SizesRounds.f (k + 1) a0 a1) := by
  intro a0 a1 k
  have ih0 := windrowlaw05_SizesRounds.mono_l k
  unfold windrowlaw05_SizesRounds.f
  repeat' first
      | (with_reducible exact ih0 _ _ _ _ _ _)
      | (with_reducible exact LeO.refl _)
      | (with_reducible exact LeO.none _)
      | (with_reducible refine LeO.ite ?_ ?_)
      | (with_reducible refine LeO.bind ?_ (fun _ => ?_))
      | exact ih0 _ _ _ _ _ _
      | exact LeO.none _
      | refine LeO.ite ?_ ?_
      | refine LeO.bind ?_ (fun _ => ?_)
set_option maxHeartbeats 8000000 in
set_option maxRecDepth 100000 in
theorem windrowlaw05_SizesRounds.calls (k : Nat) (a0 : Int) (a1 : Int) (r : Bool) (w : World) (HTRUE_ : Aside0 (r = true)) (HL_ : Aside0 (LAID w)) (h : windrowlaw05_SizesRounds.f k a0 a1 = some r) :
    Calls Tryd.prog 7 #[.int .i64 a0, .int .i64 a1] w fun e w' => e = .returned (.bool r) ∧ Below w.heap.size w w' := by
  have HB := Aside0.mk (Below.refl w.heap.size w)
  have H : ((sizes_Rounds.f (wrap64 (1 + (wrap64 (Int.tmod (IntKind.u64.wrap (a0)) 256))))).bind fun bt199 => ((sizes_Fills.f (wrap64 (1 + (wrap64 (Int.tmod (IntKind.u64.wrap (a0)) 256)))) (wrap64 (Int.tmod (IntKind.u64.wrap (a1)) 33))).bind fun bt201 => ((sizes_Pages.f (wrap64 (1 + (wrap64 (Int.tmod (IntKind.u64.wrap (a0)) 256))))).bind fun bt203 => ((windrowlaw05_sized.f).bind fun t205 => (if t205 = true then (if bt199.2 = 0 then (if bt201.2 = 0 then (if bt203.2 = 0 then (windrowlaw05_SizesRounds.j0 k (wrap64 (1 + (wrap64 (Int.tmod (IntKind.u64.wrap (a0)) 256)))) (wrap64 (Int.tmod (IntKind.u64.wrap (a1)) 33)) bt199.1 bt201.1 bt203.1 (decide (bt199.1 < (wrap64 (1 + (wrap64 (Int.tmod (IntKind.u64.wrap (a0)) 256))))))) else (windrowlaw05_SizesRounds.j0 k (wrap64 (1 + (wrap64 (Int.tmod (IntKind.u64.wrap (a0)) 256)))) (wrap64 (Int.tmod (IntKind.u64.wrap (a1)) 33)) bt199.1 bt201.1 bt203.1 true)) else (windrowlaw05_SizesRounds.j0 k (wrap64 (1 + (wrap64 (Int.tmod (IntKind.u64.wrap (a0)) 256)))) (wrap64 (Int.tmod (IntKind.u64.wrap (a1)) 33)) bt199.1 bt201.1 bt203.1 true)) else (windrowlaw05_SizesRounds.j0 k (wrap64 (1 + (wrap64 (Int.tmod (IntKind.u64.wrap (a0)) 256)))) (wrap64 (Int.tmod (IntKind.u64.wrap (a1)) 33)) bt199.1 bt201.1 bt203.1 true)) else (windrowlaw05_SizesRounds.j0 k (wrap64 (1 + (wrap64 (Int.tmod (IntKind.u64.wrap (a0)) 256)))) (wrap64 (Int.tmod (IntKind.u64.wrap (a1)) 33)) bt199.1 bt201.1 bt203.1 true)))))) = some r := h
  clear h
  replace H := Option.bind_eq_some_iff.mp H
  obtain ⟨⟨t199, t200⟩, A30, H⟩ := H
  replace H : ((sizes_Fills.f (wrap64 (1 + (wrap64 (Int.tmod (IntKind.u64.wrap (a0)) 256)))) (wrap64 (Int.tmod (IntKind.u64.wrap (a1)) 33))).bind fun bt201 => ((sizes_Pages.f (wrap64 (1 + (wrap64 (Int.tmod (IntKind.u64.wrap (a0)) 256))))).bind fun bt203 => ((windrowlaw05_sized.f).bind fun t205 => (if t205 = true then (if t200 = 0 then (if bt201.2 = 0 then (if bt203.2 = 0 then (windrowlaw05_SizesRounds.j0 k (wrap64 (1 + (wrap64 (Int.tmod (IntKind.u64.wrap (a0)) 256)))) (wrap64 (Int.tmod (IntKind.u64.wrap (a1)) 33)) t199 bt201.1 bt203.1 (decide (t199 < (wrap64 (1 + (wrap64 (Int.tmod (IntKind.u64.wrap (a0)) 256))))))) else (windrowlaw05_SizesRounds.j0 k (wrap64 (1 + (wrap64 (Int.tmod (IntKind.u64.wrap (a0)) 256)))) (wrap64 (Int.tmod (IntKind.u64.wrap (a1)) 33)) t199 bt201.1 bt203.1 true)) else (windrowlaw05_SizesRounds.j0 k (wrap64 (1 + (wrap64 (Int.tmod (IntKind.u64.wrap (a0)) 256)))) (wrap64 (Int.tmod (IntKind.u64.wrap (a1)) 33)) t199 bt201.1 bt203.1 true)) else (windrowlaw05_SizesRounds.j0 k (wrap64 (1 + (wrap64 (Int.tmod (IntKind.u64.wrap (a0)) 256)))) (wrap64 (Int.tmod (IntKind.u64.wrap (a1)) 33)) t199 bt201.1 bt203.1 true)) else (windrowlaw05_SizesRounds.j0 k (wrap64 (1 + (wrap64 (Int.tmod (IntKind.u64.wrap (a0)) 256)))) (wrap64 (Int.tmod (IntKind.u64.wrap (a1)) 33)) t199 bt201.1 bt203.1 true))))) = some r := H
  have A3 := Aside0.mk A30
  clear A30
  replace H := Option.bind_eq_some_iff.mp H
  obtain ⟨⟨t201, t202⟩, A40, H⟩ := H
  replace H : ((sizes_Pages.f (wrap64 (1 + (wrap64 (Int.tmod (IntKind.u64.wrap (a0)) 256))))).bind fun bt203 => ((windrowlaw05_sized.f).bind fun t205 => (if t205 = true then (if t200 = 0 then (if t202 = 0 then (if bt203.2 = 0 then (windrowlaw05_SizesRounds.j0 k (wrap64 (1 + (wrap64 (Int.tmod (IntKind.u64.wrap (a0)) 256)))) (wrap64 (Int.tmod (IntKind.u64.wrap (a1)) 33)) t199 t201 bt203.1 (decide (t199 < (wrap64 (1 + (wrap64 (Int.tmod (IntKind.u64.wrap (a0)) 256))))))) else (windrowlaw05_SizesRounds.j0 k (wrap64 (1 + (wrap64 (Int.tmod (IntKind.u64.wrap (a0)) 256)))) (wrap64 (Int.tmod (IntKind.u64.wrap (a1)) 33)) t199 t201 bt203.1 true)) else (windrowlaw05_SizesRounds.j0 k (wrap64 (1 + (wrap64 (Int.tmod (IntKind.u64.wrap (a0)) 256)))) (wrap64 (Int.tmod (IntKind.u64.wrap (a1)) 33)) t199 t201 bt203.1 true)) else (windrowlaw05_SizesRounds.j0 k (wrap64 (1 + (wrap64 (Int.tmod (IntKind.u64.wrap (a0)) 256)))) (wrap64 (Int.tmod (IntKind.u64.wrap (a1)) 33)) t199 t201 bt203.1 true)) else (windrowlaw05_SizesRounds.j0 k (wrap64 (1 + (wrap64 (Int.tmod (IntKind.u64.wrap (a0)) 256)))) (wrap64 (Int.tmod (IntKind.u64.wrap (a1)) 33)) t199 t201 bt203.1 true)))) = some r := H
  have A4 := Aside0.mk A40
  clear A40
  replace H := Option.bind_eq_some_iff.mp H
  obtain ⟨⟨t203, t204⟩, A50, H⟩ := H
  replace H : ((windrowlaw05_sized.f).bind fun t205 => (if t205 = true then (if t200 = 0 then (if t202 = 0 then (if t204 = 0 then (windrowlaw05_SizesRounds.j0 k (wrap64 (1 + (wrap64 (Int.tmod (IntKind.u64.wrap (a0)) 256)))) (wrap64 (Int.tmod (IntKind.u64.wrap (a1)) 33)) t199 t201 t203 (decide (t199 < (wrap64 (1 + (wrap64 (Int.tmod (IntKind.u64.wrap (a0)) 256))))))) else (windrowlaw05_SizesRounds.j0 k (wrap64 (1 + (wrap64 (Int.tmod (IntKind.u64.wrap (a0)) 256)))) (wrap64 (Int.tmod (IntKind.u64.wrap (a1)) 33)) t199 t201 t203 true)) else (windrowlaw05_SizesRounds.j0 k (wrap64 (1 + (wrap64 (Int.tmod (IntKind.u64.wrap (a0)) 256)))) (wrap64 (Int.tmod (IntKind.u64.wrap (a1)) 33)) t199 t201 t203 true)) else (windrowlaw05_SizesRounds.j0 k (wrap64 (1 + (wrap64 (Int.tmod (IntKind.u64.wrap (a0)) 256)))) (wrap64 (Int.tmod (IntKind.u64.wrap (a1)) 33)) t199 t201 t203 true)) else (windrowlaw05_SizesRounds.j0 k (wrap64 (1 + (wrap64 (Int.tmod (IntKind.u64.wrap (a0)) 256)))) (wrap64 (Int.tmod (IntKind.u64.wrap (a1)) 33)) t199 t201 t203 true))) = some r := H
  have A5 := Aside0.mk A50
  clear A50
  have HC6 := Aside0.mk H
  clear H
  go_enter Tryd.func7, Tryd.ntmps7
  go_upto_region 5 with (first | ((with_reducible refine gate_callee (f := 23) rfl ?_); refine goesL_ (some 24) rfl rfl Tryd.func23 (by kernel_rfl) rfl #[.int .i64 (wrap64 (1 + (wrap64 (Int.tmod (IntKind.u64.wrap (a0)) 256))))] rfl (by (try simp only [List.map_toArray, List.map_cons, List.map_nil]); first | done | rfl | (simp only [List.length_drop, List.length_take]; rfl)) ?_; (with_reducible refine (sizes_Rounds.calls (wrap64 (1 + (wrap64 (Int.tmod (IntKind.u64.wrap (a0)) 256)))) t199 t200 _ ?side1 A3.out).mono ?_); (case side1 => exact ⟨LAID.below HL_.out (by repeat (first | (with_reducible first | exact HB.out | apply below_alloc | apply pw_below_drewN | apply below_drew1) | exact HB.out))⟩); rintro e w' ⟨rfl, ⟨nd, rfl⟩⟩; refine ⟨_, rfl, ?_⟩) | ((with_reducible refine gate_callee (f := 25) rfl ?_); refine goesL_ (some 30) rfl rfl Tryd.func25 (by kernel_rfl) rfl #[.int .i64 (wrap64 (1 + (wrap64 (Int.tmod (IntKind.u64.wrap (a0)) 256)))), .int .i64 (wrap64 (Int.tmod (IntKind.u64.wrap (a1)) 33))] rfl (by (try simp only [List.map_toArray, List.map_cons, List.map_nil]); first | done | rfl | (simp only [List.length_drop, List.length_take]; rfl)) ?_; (with_reducible refine (sizes_Fills.calls (wrap64 (1 + (wrap64 (Int.tmod (IntKind.u64.wrap (a0)) 256)))) (wrap64 (Int.tmod (IntKind.u64.wrap (a1)) 33)) t201 t202 _ ?side1 A4.out).mono ?_); (case side1 => exact ⟨LAID.below HL_.out (by repeat (first | (with_reducible first | exact HB.out | apply below_alloc | apply pw_below_drewN | apply below_drew1) | exact HB.out))⟩); rintro e w' ⟨rfl, ⟨nd, rfl⟩⟩; refine ⟨_, rfl, ?_⟩) | ((with_reducible refine gate_callee (f := 21) rfl ?_); refine goesL_ (some 35) rfl rfl Tryd.func21 (by kernel_rfl) rfl #[.int .i64 (wrap64 (1 + (wrap64 (Int.tmod (IntKind.u64.wrap (a0)) 256))))] rfl (by (try simp only [List.map_toArray, List.map_cons, List.map_nil]); first | done | rfl | (simp only [List.length_drop, List.length_take]; rfl)) ?_; (with_reducible refine (sizes_Pages.calls (wrap64 (1 + (wrap64 (Int.tmod (IntKind.u64.wrap (a0)) 256)))) t203 t204 _ A5.out).mono ?_); rintro e w' ⟨rfl, ⟨nd, rfl⟩⟩; refine ⟨_, rfl, ?_⟩))
  (try simp only [Act.put, List.setIfInBounds_toArray, List.set_cons_zero, List.set_cons_succ])
  go_cut [56] (fun v56 wc => ∃ (kq : Nat) (x56_5 : Bool), v56 = .bool x56_5 ∧ Aside0 (windrowlaw05_SizesRounds.j0 kq (wrap64 (1 + (wrap64 (Int.tmod (IntKind.u64.wrap (a0)) 256)))) (wrap64 (Int.tmod (IntKind.u64.wrap (a1)) 33)) t199 t201 t203 x56_5 = some r) ∧ Aside0 (kq ≤ k) ∧ Aside0 (Below w.heap.size w wc))
  case first =>
    have H := HC6.out
    clear HC6
    replace H := Option.bind_eq_some_iff.mp H
    obtain ⟨t205, A70, H⟩ := H
    replace H : (if t205 = true then (if t200 = 0 then (if t202 = 0 then (if t204 = 0 then (windrowlaw05_SizesRounds.j0 k (wrap64 (1 + (wrap64 (Int.tmod (IntKind.u64.wrap (a0)) 256)))) (wrap64 (Int.tmod (IntKind.u64.wrap (a1)) 33)) t199 t201 t203 (decide (t199 < (wrap64 (1 + (wrap64 (Int.tmod (IntKind.u64.wrap (a0)) 256))))))) else (windrowlaw05_SizesRounds.j0 k (wrap64 (1 + (wrap64 (Int.tmod (IntKind.u64.wrap (a0)) 256)))) (wrap64 (Int.tmod (IntKind.u64.wrap (a1)) 33)) t199 t201 t203 true)) else (windrowlaw05_SizesRounds.j0 k (wrap64 (1 + (wrap64 (Int.tmod (IntKind.u64.wrap (a0)) 256)))) (wrap64 (Int.tmod (IntKind.u64.wrap (a1)) 33)) t199 t201 t203 true)) else (windrowlaw05_SizesRounds.j0 k (wrap64 (1 + (wrap64 (Int.tmod (IntKind.u64.wrap (a0)) 256)))) (wrap64 (Int.tmod (IntKind.u64.wrap (a1)) 33)) t199 t201 t203 true)) else (windrowlaw05_SizesRounds.j0 k (wrap64 (1 + (wrap64 (Int.tmod (IntKind.u64.wrap (a0)) 256)))) (wrap64 (Int.tmod (IntKind.u64.wrap (a1)) 33)) t199 t201 t203 true)) = some r := H
    have A7 := Aside0.mk A70
    clear A70
    by_cases c8 : t205 = true
    · subst c8
      have H1 : (if t200 = 0 then (if t202 = 0 then (if t204 = 0 then (windrowlaw05_SizesRounds.j0 k (wrap64 (1 + (wrap64 (Int.tmod (IntKind.u64.wrap (a0)) 256)))) (wrap64 (Int.tmod (IntKind.u64.wrap (a1)) 33)) t199 t201 t203 (decide (t199 < (wrap64 (1 + (wrap64 (Int.tmod (IntKind.u64.wrap (a0)) 256))))))) else (windrowlaw05_SizesRounds.j0 k (wrap64 (1 + (wrap64 (Int.tmod (IntKind.u64.wrap (a0)) 256)))) (wrap64 (Int.tmod (IntKind.u64.wrap (a1)) 33)) t199 t201 t203 true)) else (windrowlaw05_SizesRounds.j0 k (wrap64 (1 + (wrap64 (Int.tmod (IntKind.u64.wrap (a0)) 256)))) (wrap64 (Int.tmod (IntKind.u64.wrap (a1)) 33)) t199 t201 t203 true)) else (windrowlaw05_SizesRounds.j0 k (wrap64 (1 + (wrap64 (Int.tmod (IntKind.u64.wrap (a0)) 256)))) (wrap64 (Int.tmod (IntKind.u64.wrap (a1)) 33)) t199 t201 t203 true)) = some r := by rw [if_pos rfl] at H; exact H
      clear H
      have H := H1
      clear H1
      by_cases c9 : t200 = 0
      · rw [if_pos c9] at H
        have c9b0 : (t200 == 0) = true := beq_iff_eq.mpr c9
        have c9b1 : (t200 != 0) = false := bne_eq_false_iff_eq.mpr c9
        clear c9
        (first | rw [c9b0] | (simp only [i64_w, i32_w]; rw [c9b0]) | rw [c9b1] | skip)
        by_cases c10 : t202 = 0
        · rw [if_pos c10] at H
          have c10b0 : (t202 == 0) = true := beq_iff_eq.mpr c10
          have c10b1 : (t202 != 0) = false := bne_eq_false_iff_eq.mpr c10
          clear c10
          by_cases c11 : t204 = 0
          · rw [if_pos c11] at H
            have c11b0 : (t204 == 0) = true := beq_iff_eq.mpr c11
            have c11b1 : (t204 != 0) = false := bne_eq_false_iff_eq.mpr c11
            clear c11
            have H' := Aside0.mk H
            clear H
            go_wp2_with (first | ((with_reducible refine gate_callee (f := 15) rfl ?_); refine goesL_ (some 38) rfl rfl Tryd.func15 (by kernel_rfl) rfl #[] rfl (by (try simp only [List.map_toArray, List.map_cons, List.map_nil]); first | done | rfl | (simp only [List.length_drop, List.length_take]; rfl)) ?_; (with_reducible refine (windrowlaw05_sized.calls  true _ ?side1 A7.out).mono ?_); (case side1 => exact ⟨LAID.below HL_.out (by repeat (first | (with_reducible first | exact HB.out | apply below_alloc | apply pw_below_drewN | apply below_drew1) | exact HB.out))⟩); rintro e w12 ⟨rfl, hb⟩; refine ⟨_, rfl, ?_⟩; have n0_ := Aside0.mk (below_step (by repeat (first | (with_reducible first | exact HB.out | apply below_alloc | apply pw_below_drewN | apply below_drew1) | exact HB.out)) hb); clear HB; have HB := n0_; clear n0_; (try clear hb); (try clear hb2); (try clear hk); (try clear hi)))
            go_meet
            case rel => exact ⟨_, (decide (t199 < (wrap64 (1 + (wrap64 (Int.tmod (IntKind.u64.wrap (a0)) 256)))))), (by first | rfl | (simp; done) | (simp [*]; done)), H', ⟨by first | omega | exact Nat.le_refl _⟩, ⟨by repeat (first | (with_reducible first | exact HB.out | apply below_alloc | apply pw_below_drewN | apply below_drew1) | exact HB.out)⟩⟩
          · rw [if_neg c11] at H
            have c11b0 : (t204 == 0) = false := beq_eq_false_iff_ne.mpr c11
            have c11b1 : (t204 != 0) = true := bne_iff_ne.mpr c11
            have H' := Aside0.mk H
            clear H
            go_wp2_with (first | ((with_reducible refine gate_callee (f := 15) rfl ?_); refine goesL_ (some 38) rfl rfl Tryd.func15 (by kernel_rfl) rfl #[] rfl (by (try simp only [List.map_toArray, List.map_cons, List.map_nil]); first | done | rfl | (simp only [List.length_drop, List.length_take]; rfl)) ?_; (with_reducible refine (windrowlaw05_sized.calls  true _ ?side1 A7.out).mono ?_); (case side1 => exact ⟨LAID.below HL_.out (by repeat (first | (with_reducible first | exact HB.out | apply below_alloc | apply pw_below_drewN | apply below_drew1) | exact HB.out))⟩); rintro e w13 ⟨rfl, hb⟩; refine ⟨_, rfl, ?_⟩; have n0_ := Aside0.mk (below_step (by repeat (first | (with_reducible first | exact HB.out | apply below_alloc | apply pw_below_drewN | apply below_drew1) | exact HB.out)) hb); clear HB; have HB := n0_; clear n0_; (try clear hb); (try clear hb2); (try clear hk); (try clear hi)))
            go_meet
            case rel => exact ⟨_, (true), (by first | rfl | (simp; done) | (simp [*]; done)), H', ⟨by first | omega | exact Nat.le_refl _⟩, ⟨by repeat (first | (with_reducible first | exact HB.out | apply below_alloc | apply pw_below_drewN | apply below_drew1) | exact HB.out)⟩⟩
        · rw [if_neg c10] at H
          have c10b0 : (t202 == 0) = false := beq_eq_false_iff_ne.mpr c10
          have c10b1 : (t202 != 0) = true := bne_iff_ne.mpr c10
          have H' := Aside0.mk H
          clear H
          go_wp2_with (first | ((with_reducible refine gate_callee (f := 15) rfl ?_); refine goesL_ (some 38) rfl rfl Tryd.func15 (by kernel_rfl) rfl #[] rfl (by (try simp only [List.map_toArray, List.map_cons, List.map_nil]); first | done | rfl | (simp only [List.length_drop, List.length_take]; rfl)) ?_; (with_reducible refine (windrowlaw05_sized.calls  true _ ?side1 A7.out).mono ?_); (case side1 => exact ⟨LAID.below HL_.out (by repeat (first | (with_reducible first | exact HB.out | apply below_alloc | apply pw_below_drewN | apply below_drew1) | exact HB.out))⟩); rintro e w14 ⟨rfl, hb⟩; refine ⟨_, rfl, ?_⟩; have n0_ := Aside0.mk (below_step (by repeat (first | (with_reducible first | exact HB.out | apply below_alloc | apply pw_below_drewN | apply below_drew1) | exact HB.out)) hb); clear HB; have HB := n0_; clear n0_; (try clear hb); (try clear hb2); (try clear hk); (try clear hi)))
          go_meet
          case rel => exact ⟨_, (true), (by first | rfl | (simp; done) | (simp [*]; done)), H', ⟨by first | omega | exact Nat.le_refl _⟩, ⟨by repeat (first | (with_reducible first | exact HB.out | apply below_alloc | apply pw_below_drewN | apply below_drew1) | exact HB.out)⟩⟩
      · rw [if_neg c9] at H
        have c9b0 : (t200 == 0) = false := beq_eq_false_iff_ne.mpr c9
        have c9b1 : (t200 != 0) = true := bne_iff_ne.mpr c9
        (first | rw [c9b0] | (simp only [i64_w, i32_w]; rw [c9b0]) | rw [c9b1] | skip)
        have H' := Aside0.mk H
        clear H
        go_wp2_with (first | ((with_reducible refine gate_callee (f := 15) rfl ?_); refine goesL_ (some 38) rfl rfl Tryd.func15 (by kernel_rfl) rfl #[] rfl (by (try simp only [List.map_toArray, List.map_cons, List.map_nil]); first | done | rfl | (simp only [List.length_drop, List.length_take]; rfl)) ?_; (with_reducible refine (windrowlaw05_sized.calls  true _ ?side1 A7.out).mono ?_); (case side1 => exact ⟨LAID.below HL_.out (by repeat (first | (with_reducible first | exact HB.out | apply below_alloc | apply pw_below_drewN | apply below_drew1) | exact HB.out))⟩); rintro e w15 ⟨rfl, hb⟩; refine ⟨_, rfl, ?_⟩; have n0_ := Aside0.mk (below_step (by repeat (first | (with_reducible first | exact HB.out | apply below_alloc | apply pw_below_drewN | apply below_drew1) | exact HB.out)) hb); clear HB; have HB := n0_; clear n0_; (try clear hb); (try clear hb2); (try clear hk); (try clear hi)))
        go_meet
        case rel => exact ⟨_, (true), (by first | rfl | (simp; done) | (simp [*]; done)), H', ⟨by first | omega | exact Nat.le_refl _⟩, ⟨by repeat (first | (with_reducible first | exact HB.out | apply below_alloc | apply pw_below_drewN | apply below_drew1) | exact HB.out)⟩⟩
    · replace c8 := Bool.eq_false_iff.mpr c8
      subst c8
      have H1 : (windrowlaw05_SizesRounds.j0 k (wrap64 (1 + (wrap64 (Int.tmod (IntKind.u64.wrap (a0)) 256)))) (wrap64 (Int.tmod (IntKind.u64.wrap (a1)) 33)) t199 t201 t203 true) = some r := by rw [if_neg (show ¬ (false = true) by decide)] at H; exact H
      clear H
      have H := H1
      clear H1
      have H' := Aside0.mk H
      clear H
      go_wp2_with (first | ((with_reducible refine gate_callee (f := 15) rfl ?_); refine goesL_ (some 38) rfl rfl Tryd.func15 (by kernel_rfl) rfl #[] rfl (by (try simp only [List.map_toArray, List.map_cons, List.map_nil]); first | done | rfl | (simp only [List.length_drop, List.length_take]; rfl)) ?_; (with_reducible refine (windrowlaw05_sized.calls  false _ ?side1 A7.out).mono ?_); (case side1 => exact ⟨LAID.below HL_.out (by repeat (first | (with_reducible first | exact HB.out | apply below_alloc | apply pw_below_drewN | apply below_drew1) | exact HB.out))⟩); rintro e w16 ⟨rfl, hb⟩; refine ⟨_, rfl, ?_⟩; have n0_ := Aside0.mk (below_step (by repeat (first | (with_reducible first | exact HB.out | apply below_alloc | apply pw_below_drewN | apply below_drew1) | exact HB.out)) hb); clear HB; have HB := n0_; clear n0_; (try clear hb); (try clear hb2); (try clear hk); (try clear hi)))
      go_meet
      case rel => exact ⟨_, (true), (by first | rfl | (simp; done) | (simp [*]; done)), H', ⟨by first | omega | exact Nat.le_refl _⟩, ⟨by repeat (first | (with_reducible first | exact HB.out | apply below_alloc | apply pw_below_drewN | apply below_drew1) | exact HB.out)⟩⟩
  case rest =>
    clear HC6
    try clear c1
    try clear c2
    try clear p2
    try clear p6
    try clear c7
    try clear c8
    try clear c9
    try clear c9b0
    try clear c9b1
    try clear c10
    try clear c10b0
    try clear c10b1
    try clear c11
    try clear c11b0
    try clear c11b1
    try clear c15
    obtain ⟨kq, x56_5, rfl, HA, HJ5, HB⟩ := hcut
    cases kq with
    | zero => exact absurd HA.out (by simp [windrowlaw05_SizesRounds.j0])
    | succ kj5 =>
      have H := HA.out
      clear HA
      simp only [windrowlaw05_SizesRounds.j0] at H
      by_cases c17 : x56_5 = true
      · subst c17
        have H1 : (some false) = some r := by rw [if_pos rfl] at H; exact H
        clear H
        have H := H1
        clear H1
        exact absurd (H.trans (congrArg some HTRUE_.out)) (by simp)
      · replace c17 := Bool.eq_false_iff.mpr c17
        subst c17
        have H1 : (if t203 > 0 then (if t199 = (wrap64 (64 * t203)) then (if (wrap64 (t201 * t203)) ≤ (wrap64 (Int.tmod (IntKind.u64.wrap (a1)) 33)) then (if (wrap64 ((wrap64 (t201 + 1)) * t203)) > (wrap64 (Int.tmod (IntKind.u64.wrap (a1)) 33)) then (some (decide ((wrap64 (1 + (wrap64 (Int.tmod (IntKind.u64.wrap (a0)) 256)))) > (wrap64 (64 * (wrap64 (t203 - 1))))))) else (some false)) else (some false)) else (some false)) else ((sizes_Class.f (wrap64 (1 + (wrap64 (Int.tmod (IntKind.u64.wrap (a0)) 256))))).bind fun bt206 => ((sizes_Cells.f bt206.1).bind fun bt208 => (if bt206.2 = 0 then (if bt208.2 = 0 then (if (wrap64 (1 + (wrap64 (Int.tmod (IntKind.u64.wrap (a0)) 256)))) ≤ 32 then (if t201 = (wrap64 (bt208.1 * (wrap64 (Int.tmod (IntKind.u64.wrap (a1)) 33)))) then (some (decide ((wrap64 (bt208.1 * t199)) ≤ 64))) else (some false)) else (some false)) else (some false)) else (some false))))) = some r := by rw [if_neg (show ¬ (false = true) by decide)] at H; exact H
        clear H
        have H := H1
        clear H1
        by_cases c18 : t203 > 0
        · rw [if_pos c18] at H
          have c18b0 : decide (0 < t203) = true := decide_eq_true c18
          clear c18
          by_cases c19 : t199 = (wrap64 (64 * t203))
          · rw [if_pos c19] at H
            have c19b0 : (t199 == (wrap64 (64 * t203))) = true := beq_iff_eq.mpr c19
            have c19b1 : (t199 != (wrap64 (64 * t203))) = false := bne_eq_false_iff_eq.mpr c19
            clear c19
            by_cases c20 : (wrap64 (t201 * t203)) ≤ (wrap64 (Int.tmod (IntKind.u64.wrap (a1)) 33))
            · rw [if_pos c20] at H
              have c20b0 : decide ((wrap64 (t201 * t203)) ≤ (wrap64 (Int.tmod (IntKind.u64.wrap (a1)) 33))) = true := decide_eq_true c20
              clear c20
              by_cases c21 : (wrap64 ((wrap64 (t201 + 1)) * t203)) > (wrap64 (Int.tmod (IntKind.u64.wrap (a1)) 33))
              · rw [if_pos c21] at H
                have c21b0 : decide ((wrap64 (Int.tmod (IntKind.u64.wrap (a1)) 33)) < (wrap64 ((wrap64 (t201 + 1)) * t203))) = true := decide_eq_true c21
                clear c21
                obtain rfl := Option.some.inj H
                go_wp2
                go_ret
                exact ⟨by first | rfl | (simp [errW_none, errW_some] <;> rfl) | (simp [*, errW_none, errW_some] <;> rfl), by repeat (first | (with_reducible first | exact HB.out | apply below_alloc | apply pw_below_drewN | apply below_drew1) | exact HB.out)⟩
              · rw [if_neg c21] at H
                have c21b0 : decide ((wrap64 (Int.tmod (IntKind.u64.wrap (a1)) 33)) < (wrap64 ((wrap64 (t201 + 1)) * t203))) = false := decide_eq_false c21
                clear c21
                exact absurd (H.trans (congrArg some HTRUE_.out)) (by simp)
            · rw [if_neg c20] at H
              have c20b0 : decide ((wrap64 (t201 * t203)) ≤ (wrap64 (Int.tmod (IntKind.u64.wrap (a1)) 33))) = false := decide_eq_false c20
              clear c20
              exact absurd (H.trans (congrArg some HTRUE_.out)) (by simp)
          · rw [if_neg c19] at H
            have c19b0 : (t199 == (wrap64 (64 * t203))) = false := beq_eq_false_iff_ne.mpr c19
            have c19b1 : (t199 != (wrap64 (64 * t203))) = true := bne_iff_ne.mpr c19
            exact absurd (H.trans (congrArg some HTRUE_.out)) (by simp)
        · rw [if_neg c18] at H
          have c18b0 : decide (0 < t203) = false := decide_eq_false c18
          clear c18
          replace H := Option.bind_eq_some_iff.mp H
          obtain ⟨⟨t206, t207⟩, A220, H⟩ := H
          replace H : ((sizes_Cells.f t206).bind fun bt208 => (if t207 = 0 then (if bt208.2 = 0 then (if (wrap64 (1 + (wrap64 (Int.tmod (IntKind.u64.wrap (a0)) 256)))) ≤ 32 then (if t201 = (wrap64 (bt208.1 * (wrap64 (Int.tmod (IntKind.u64.wrap (a1)) 33)))) then (some (decide ((wrap64 (bt208.1 * t199)) ≤ 64))) else (some false)) else (some false)) else (some false)) else (some false))) = some r := H
          have A22 := Aside0.mk A220
          clear A220
          replace H := Option.bind_eq_some_iff.mp H
          obtain ⟨⟨t208, t209⟩, A230, H⟩ := H
          replace H : (if t207 = 0 then (if t209 = 0 then (if (wrap64 (1 + (wrap64 (Int.tmod (IntKind.u64.wrap (a0)) 256)))) ≤ 32 then (if t201 = (wrap64 (t208 * (wrap64 (Int.tmod (IntKind.u64.wrap (a1)) 33)))) then (some (decide ((wrap64 (t208 * t199)) ≤ 64))) else (some false)) else (some false)) else (some false)) else (some false)) = some r := H
          have A23 := Aside0.mk A230
          clear A230
          by_cases c24 : t207 = 0
          · rw [if_pos c24] at H
            have c24b0 : (t207 == 0) = true := beq_iff_eq.mpr c24
            have c24b1 : (t207 != 0) = false := bne_eq_false_iff_eq.mpr c24
            clear c24
            by_cases c25 : t209 = 0
            · rw [if_pos c25] at H
              have c25b0 : (t209 == 0) = true := beq_iff_eq.mpr c25
              have c25b1 : (t209 != 0) = false := bne_eq_false_iff_eq.mpr c25
              clear c25
              by_cases c26 : (wrap64 (1 + (wrap64 (Int.tmod (IntKind.u64.wrap (a0)) 256)))) ≤ 32
              · rw [if_pos c26] at H
                have c26b0 : decide ((wrap64 (1 + (wrap64 (Int.tmod (IntKind.u64.wrap (a0)) 256)))) ≤ 32) = true := decide_eq_true c26
                clear c26
                by_cases c27 : t201 = (wrap64 (t208 * (wrap64 (Int.tmod (IntKind.u64.wrap (a1)) 33))))
                · rw [if_pos c27] at H
                  have c27b0 : (t201 == (wrap64 (t208 * (wrap64 (Int.tmod (IntKind.u64.wrap (a1)) 33))))) = true := beq_iff_eq.mpr c27
                  have c27b1 : (t201 != (wrap64 (t208 * (wrap64 (Int.tmod (IntKind.u64.wrap (a1)) 33))))) = false := bne_eq_false_iff_eq.mpr c27
                  clear c27
                  obtain rfl := Option.some.inj H
                  go_wp2_with (first | ((with_reducible refine gate_callee (f := 17) rfl ?_); refine goesL_ (some 87) rfl rfl Tryd.func17 (by kernel_rfl) rfl #[.int .i64 (wrap64 (1 + (wrap64 (Int.tmod (IntKind.u64.wrap (a0)) 256))))] rfl (by (try simp only [List.map_toArray, List.map_cons, List.map_nil]); first | done | rfl | (simp only [List.length_drop, List.length_take]; rfl)) ?_; (with_reducible refine (sizes_Class.calls (wrap64 (1 + (wrap64 (Int.tmod (IntKind.u64.wrap (a0)) 256)))) t206 t207 _ ?side1 A22.out).mono ?_); (case side1 => exact ⟨LAID.below HL_.out (by repeat (first | (with_reducible first | exact HB.out | apply below_alloc | apply pw_below_drewN | apply below_drew1) | exact HB.out))⟩); rintro e w' ⟨rfl, ⟨nd, rfl⟩⟩; refine ⟨_, rfl, ?_⟩) | ((with_reducible refine gate_callee (f := 12) rfl ?_); refine goesL_ (some 92) rfl rfl Tryd.func12 (by kernel_rfl) rfl #[.int .i64 t206] rfl (by (try simp only [List.map_toArray, List.map_cons, List.map_nil]); first | done | rfl | (simp only [List.length_drop, List.length_take]; rfl)) ?_; (with_reducible refine (sizes_Cells.calls t206 t208 t209 _ ?side1 A23.out).mono ?_); (case side1 => exact ⟨LAID.below HL_.out (by repeat (first | (with_reducible first | exact HB.out | apply below_alloc | apply pw_below_drewN | apply below_drew1) | exact HB.out))⟩); rintro e w' ⟨rfl, ⟨nd, rfl⟩⟩; refine ⟨_, rfl, ?_⟩))
                  go_ret
                  exact ⟨by first | rfl | (simp [errW_none, errW_some] <;> rfl) | (simp [*, errW_none, errW_some] <;> rfl), by repeat (first | (with_reducible first | exact HB.out | apply below_alloc | apply pw_below_drewN | apply below_drew1) | exact HB.out)⟩
                · rw [if_neg c27] at H
                  have c27b0 : (t201 == (wrap64 (t208 * (wrap64 (Int.tmod (IntKind.u64.wrap (a1)) 33))))) = false := beq_eq_false_iff_ne.mpr c27
                  have c27b1 : (t201 != (wrap64 (t208 * (wrap64 (Int.tmod (IntKind.u64.wrap (a1)) 33))))) = true := bne_iff_ne.mpr c27
                  exact absurd (H.trans (congrArg some HTRUE_.out)) (by simp)
              · rw [if_neg c26] at H
                have c26b0 : decide ((wrap64 (1 + (wrap64 (Int.tmod (IntKind.u64.wrap (a0)) 256)))) ≤ 32) = false := decide_eq_false c26
                clear c26
                exact absurd (H.trans (congrArg some HTRUE_.out)) (by simp)
            · rw [if_neg c25] at H
              have c25b0 : (t209 == 0) = false := beq_eq_false_iff_ne.mpr c25
              have c25b1 : (t209 != 0) = true := bne_iff_ne.mpr c25
              exact absurd (H.trans (congrArg some HTRUE_.out)) (by simp)
          · rw [if_neg c24] at H
            have c24b0 : (t207 == 0) = false := beq_eq_false_iff_ne.mpr c24
            have c24b1 : (t207 != 0) = true := bne_iff_ne.mpr c24
            exact absurd (H.trans (congrArg some HTRUE_.out)) (by simp)

/-- The pure statement of windrowlaw05_SizesRounds. -/
def windrowlaw05_SizesRounds.Pure : Prop := ∀ (a0 : Int) (a1 : Int), (Lit.int .i64 a0).wf = true → (Lit.int .i64 a1).wf = true → ∃ k, windrowlaw05_SizesRounds.f k a0 a1 = some true
theorem windrowlaw05_SizesRounds.walk (P : windrowlaw05_SizesRounds.Pure) (a0 : Int) (a1 : Int) (w : World) (w0 : (Lit.int .i64 a0).wf = true) (w1 : (Lit.int .i64 a1).wf = true) (HL : LAID w) :
    Calls Tryd.prog 7 #[.int .i64 a0, .int .i64 a1] w fun e w' => e = .returned (.bool true) ∧ Below w.heap.size w w' := by
  obtain ⟨k, h⟩ := P a0 a1 w0 w1
  refine (windrowlaw05_SizesRounds.calls k a0 a1 true w ⟨rfl⟩ ⟨HL⟩ h).mono ?_
  rintro e w' ⟨rfl, hd⟩
  exact ⟨rfl, hd⟩

/-! ### bits_OnesCount64: function 42 -/
def bits_OnesCount64.f (a0 : Int) : Option (Int) := some (Go.bits .and .i64 (wrap64 (IntKind.u64.wrap ((IntKind.u64.wrap ((IntKind.u64.wrap ((Go.bits .and .u64 (IntKind.u64.wrap (((IntKind.u64.wrap ((Go.bits .and .u64 ((IntKind.u64.wrap ((Go.bits .and .u64 (a0 / 2) 6148914691236517205) + (Go.bits .and .u64 a0 6148914691236517205))) / 4) 3689348814741910323) + (Go.bits .and .u64 (IntKind.u64.wrap ((Go.bits .and .u64 (a0 / 2) 6148914691236517205) + (Go.bits .and .u64 a0 6148914691236517205))) 3689348814741910323))) / 16) + (IntKind.u64.wrap ((Go.bits .and .u64 ((IntKind.u64.wrap ((Go.bits .and .u64 (a0 / 2) 6148914691236517205) + (Go.bits .and .u64 a0 6148914691236517205))) / 4) 3689348814741910323) + (Go.bits .and .u64 (IntKind.u64.wrap ((Go.bits .and .u64 (a0 / 2) 6148914691236517205) + (Go.bits .and .u64 a0 6148914691236517205))) 3689348814741910323))))) 1085102592571150095) + ((Go.bits .and .u64 (IntKind.u64.wrap (((IntKind.u64.wrap ((Go.bits .and .u64 ((IntKind.u64.wrap ((Go.bits .and .u64 (a0 / 2) 6148914691236517205) + (Go.bits .and .u64 a0 6148914691236517205))) / 4) 3689348814741910323) + (Go.bits .and .u64 (IntKind.u64.wrap ((Go.bits .and .u64 (a0 / 2) 6148914691236517205) + (Go.bits .and .u64 a0 6148914691236517205))) 3689348814741910323))) / 16) + (IntKind.u64.wrap ((Go.bits .and .u64 ((IntKind.u64.wrap ((Go.bits .and .u64 (a0 / 2) 6148914691236517205) + (Go.bits .and .u64 a0 6148914691236517205))) / 4) 3689348814741910323) + (Go.bits .and .u64 (IntKind.u64.wrap ((Go.bits .and .u64 (a0 / 2) 6148914691236517205) + (Go.bits .and .u64 a0 6148914691236517205))) 3689348814741910323))))) 1085102592571150095) / 256))) + ((IntKind.u64.wrap ((Go.bits .and .u64 (IntKind.u64.wrap (((IntKind.u64.wrap ((Go.bits .and .u64 ((IntKind.u64.wrap ((Go.bits .and .u64 (a0 / 2) 6148914691236517205) + (Go.bits .and .u64 a0 6148914691236517205))) / 4) 3689348814741910323) + (Go.bits .and .u64 (IntKind.u64.wrap ((Go.bits .and .u64 (a0 / 2) 6148914691236517205) + (Go.bits .and .u64 a0 6148914691236517205))) 3689348814741910323))) / 16) + (IntKind.u64.wrap ((Go.bits .and .u64 ((IntKind.u64.wrap ((Go.bits .and .u64 (a0 / 2) 6148914691236517205) + (Go.bits .and .u64 a0 6148914691236517205))) / 4) 3689348814741910323) + (Go.bits .and .u64 (IntKind.u64.wrap ((Go.bits .and .u64 (a0 / 2) 6148914691236517205) + (Go.bits .and .u64 a0 6148914691236517205))) 3689348814741910323))))) 1085102592571150095) + ((Go.bits .and .u64 (IntKind.u64.wrap (((IntKind.u64.wrap ((Go.bits .and .u64 ((IntKind.u64.wrap ((Go.bits .and .u64 (a0 / 2) 6148914691236517205) + (Go.bits .and .u64 a0 6148914691236517205))) / 4) 3689348814741910323) + (Go.bits .and .u64 (IntKind.u64.wrap ((Go.bits .and .u64 (a0 / 2) 6148914691236517205) + (Go.bits .and .u64 a0 6148914691236517205))) 3689348814741910323))) / 16) + (IntKind.u64.wrap ((Go.bits .and .u64 ((IntKind.u64.wrap ((Go.bits .and .u64 (a0 / 2) 6148914691236517205) + (Go.bits .and .u64 a0 6148914691236517205))) / 4) 3689348814741910323) + (Go.bits .and .u64 (IntKind.u64.wrap ((Go.bits .and .u64 (a0 / 2) 6148914691236517205) + (Go.bits .and .u64 a0 6148914691236517205))) 3689348814741910323))))) 1085102592571150095) / 256))) / 65536))) + ((IntKind.u64.wrap ((IntKind.u64.wrap ((Go.bits .and .u64 (IntKind.u64.wrap (((IntKind.u64.wrap ((Go.bits .and .u64 ((IntKind.u64.wrap ((Go.bits .and .u64 (a0 / 2) 6148914691236517205) + (Go.bits .and .u64 a0 6148914691236517205))) / 4) 3689348814741910323) + (Go.bits .and .u64 (IntKind.u64.wrap ((Go.bits .and .u64 (a0 / 2) 6148914691236517205) + (Go.bits .and .u64 a0 6148914691236517205))) 3689348814741910323))) / 16) + (IntKind.u64.wrap ((Go.bits .and .u64 ((IntKind.u64.wrap ((Go.bits .and .u64 (a0 / 2) 6148914691236517205) + (Go.bits .and .u64 a0 6148914691236517205))) / 4) 3689348814741910323) + (Go.bits .and .u64 (IntKind.u64.wrap ((Go.bits .and .u64 (a0 / 2) 6148914691236517205) + (Go.bits .and .u64 a0 6148914691236517205))) 3689348814741910323))))) 1085102592571150095) + ((Go.bits .and .u64 (IntKind.u64.wrap (((IntKind.u64.wrap ((Go.bits .and .u64 ((IntKind.u64.wrap ((Go.bits .and .u64 (a0 / 2) 6148914691236517205) + (Go.bits .and .u64 a0 6148914691236517205))) / 4) 3689348814741910323) + (Go.bits .and .u64 (IntKind.u64.wrap ((Go.bits .and .u64 (a0 / 2) 6148914691236517205) + (Go.bits .and .u64 a0 6148914691236517205))) 3689348814741910323))) / 16) + (IntKind.u64.wrap ((Go.bits .and .u64 ((IntKind.u64.wrap ((Go.bits .and .u64 (a0 / 2) 6148914691236517205) + (Go.bits .and .u64 a0 6148914691236517205))) / 4) 3689348814741910323) + (Go.bits .and .u64 (IntKind.u64.wrap ((Go.bits .and .u64 (a0 / 2) 6148914691236517205) + (Go.bits .and .u64 a0 6148914691236517205))) 3689348814741910323))))) 1085102592571150095) / 256))) + ((IntKind.u64.wrap ((Go.bits .and .u64 (IntKind.u64.wrap (((IntKind.u64.wrap ((Go.bits .and .u64 ((IntKind.u64.wrap ((Go.bits .and .u64 (a0 / 2) 6148914691236517205) + (Go.bits .and .u64 a0 6148914691236517205))) / 4) 3689348814741910323) + (Go.bits .and .u64 (IntKind.u64.wrap ((Go.bits .and .u64 (a0 / 2) 6148914691236517205) + (Go.bits .and .u64 a0 6148914691236517205))) 3689348814741910323))) / 16) + (IntKind.u64.wrap ((Go.bits .and .u64 ((IntKind.u64.wrap ((Go.bits .and .u64 (a0 / 2) 6148914691236517205) + (Go.bits .and .u64 a0 6148914691236517205))) / 4) 3689348814741910323) + (Go.bits .and .u64 (IntKind.u64.wrap ((Go.bits .and .u64 (a0 / 2) 6148914691236517205) + (Go.bits .and .u64 a0 6148914691236517205))) 3689348814741910323))))) 1085102592571150095) + ((Go.bits .and .u64 (IntKind.u64.wrap (((IntKind.u64.wrap ((Go.bits .and .u64 ((IntKind.u64.wrap ((Go.bits .and .u64 (a0 / 2) 6148914691236517205) + (Go.bits .and .u64 a0 6148914691236517205))) / 4) 3689348814741910323) + (Go.bits .and .u64 (IntKind.u64.wrap ((Go.bits .and .u64 (a0 / 2) 6148914691236517205) + (Go.bits .and .u64 a0 6148914691236517205))) 3689348814741910323))) / 16) + (IntKind.u64.wrap ((Go.bits .and .u64 ((IntKind.u64.wrap ((Go.bits .and .u64 (a0 / 2) 6148914691236517205) + (Go.bits .and .u64 a0 6148914691236517205))) / 4) 3689348814741910323) + (Go.bits .and .u64 (IntKind.u64.wrap ((Go.bits .and .u64 (a0 / 2) 6148914691236517205) + (Go.bits .and .u64 a0 6148914691236517205))) 3689348814741910323))))) 1085102592571150095) / 256))) / 65536))) / 4294967296)))) 127)
set_option maxHeartbeats 8000000 in
set_option maxRecDepth 100000 in
theorem bits_OnesCount64.calls (a0 : Int) (r : Int) (w : World) (h : bits_OnesCount64.f a0 = some r) :
    Calls Tryd.prog 42 #[.int .u64 a0] w fun e w' => e = .returned (.int .i64 r) ∧ Drawn0 w w' := by
  have H : (some (Go.bits .and .i64 (wrap64 (IntKind.u64.wrap ((IntKind.u64.wrap ((IntKind.u64.wrap ((Go.bits .and .u64 (IntKind.u64.wrap (((IntKind.u64.wrap ((Go.bits .and .u64 ((IntKind.u64.wrap ((Go.bits .and .u64 (a0 / 2) 6148914691236517205) + (Go.bits .and .u64 a0 6148914691236517205))) / 4) 3689348814741910323) + (Go.bits .and .u64 (IntKind.u64.wrap ((Go.bits .and .u64 (a0 / 2) 6148914691236517205) + (Go.bits .and .u64 a0 6148914691236517205))) 3689348814741910323))) / 16) + (IntKind.u64.wrap ((Go.bits .and .u64 ((IntKind.u64.wrap ((Go.bits .and .u64 (a0 / 2) 6148914691236517205) + (Go.bits .and .u64 a0 6148914691236517205))) / 4) 3689348814741910323) + (Go.bits .and .u64 (IntKind.u64.wrap ((Go.bits .and .u64 (a0 / 2) 6148914691236517205) + (Go.bits .and .u64 a0 6148914691236517205))) 3689348814741910323))))) 1085102592571150095) + ((Go.bits .and .u64 (IntKind.u64.wrap (((IntKind.u64.wrap ((Go.bits .and .u64 ((IntKind.u64.wrap ((Go.bits .and .u64 (a0 / 2) 6148914691236517205) + (Go.bits .and .u64 a0 6148914691236517205))) / 4) 3689348814741910323) + (Go.bits .and .u64 (IntKind.u64.wrap ((Go.bits .and .u64 (a0 / 2) 6148914691236517205) + (Go.bits .and .u64 a0 6148914691236517205))) 3689348814741910323))) / 16) + (IntKind.u64.wrap ((Go.bits .and .u64 ((IntKind.u64.wrap ((Go.bits .and .u64 (a0 / 2) 6148914691236517205) + (Go.bits .and .u64 a0 6148914691236517205))) / 4) 3689348814741910323) + (Go.bits .and .u64 (IntKind.u64.wrap ((Go.bits .and .u64 (a0 / 2) 6148914691236517205) + (Go.bits .and .u64 a0 6148914691236517205))) 3689348814741910323))))) 1085102592571150095) / 256))) + ((IntKind.u64.wrap ((Go.bits .and .u64 (IntKind.u64.wrap (((IntKind.u64.wrap ((Go.bits .and .u64 ((IntKind.u64.wrap ((Go.bits .and .u64 (a0 / 2) 6148914691236517205) + (Go.bits .and .u64 a0 6148914691236517205))) / 4) 3689348814741910323) + (Go.bits .and .u64 (IntKind.u64.wrap ((Go.bits .and .u64 (a0 / 2) 6148914691236517205) + (Go.bits .and .u64 a0 6148914691236517205))) 3689348814741910323))) / 16) + (IntKind.u64.wrap ((Go.bits .and .u64 ((IntKind.u64.wrap ((Go.bits .and .u64 (a0 / 2) 6148914691236517205) + (Go.bits .and .u64 a0 6148914691236517205))) / 4) 3689348814741910323) + (Go.bits .and .u64 (IntKind.u64.wrap ((Go.bits .and .u64 (a0 / 2) 6148914691236517205) + (Go.bits .and .u64 a0 6148914691236517205))) 3689348814741910323))))) 1085102592571150095) + ((Go.bits .and .u64 (IntKind.u64.wrap (((IntKind.u64.wrap ((Go.bits .and .u64 ((IntKind.u64.wrap ((Go.bits .and .u64 (a0 / 2) 6148914691236517205) + (Go.bits .and .u64 a0 6148914691236517205))) / 4) 3689348814741910323) + (Go.bits .and .u64 (IntKind.u64.wrap ((Go.bits .and .u64 (a0 / 2) 6148914691236517205) + (Go.bits .and .u64 a0 6148914691236517205))) 3689348814741910323))) / 16) + (IntKind.u64.wrap ((Go.bits .and .u64 ((IntKind.u64.wrap ((Go.bits .and .u64 (a0 / 2) 6148914691236517205) + (Go.bits .and .u64 a0 6148914691236517205))) / 4) 3689348814741910323) + (Go.bits .and .u64 (IntKind.u64.wrap ((Go.bits .and .u64 (a0 / 2) 6148914691236517205) + (Go.bits .and .u64 a0 6148914691236517205))) 3689348814741910323))))) 1085102592571150095) / 256))) / 65536))) + ((IntKind.u64.wrap ((IntKind.u64.wrap ((Go.bits .and .u64 (IntKind.u64.wrap (((IntKind.u64.wrap ((Go.bits .and .u64 ((IntKind.u64.wrap ((Go.bits .and .u64 (a0 / 2) 6148914691236517205) + (Go.bits .and .u64 a0 6148914691236517205))) / 4) 3689348814741910323) + (Go.bits .and .u64 (IntKind.u64.wrap ((Go.bits .and .u64 (a0 / 2) 6148914691236517205) + (Go.bits .and .u64 a0 6148914691236517205))) 3689348814741910323))) / 16) + (IntKind.u64.wrap ((Go.bits .and .u64 ((IntKind.u64.wrap ((Go.bits .and .u64 (a0 / 2) 6148914691236517205) + (Go.bits .and .u64 a0 6148914691236517205))) / 4) 3689348814741910323) + (Go.bits .and .u64 (IntKind.u64.wrap ((Go.bits .and .u64 (a0 / 2) 6148914691236517205) + (Go.bits .and .u64 a0 6148914691236517205))) 3689348814741910323))))) 1085102592571150095) + ((Go.bits .and .u64 (IntKind.u64.wrap (((IntKind.u64.wrap ((Go.bits .and .u64 ((IntKind.u64.wrap ((Go.bits .and .u64 (a0 / 2) 6148914691236517205) + (Go.bits .and .u64 a0 6148914691236517205))) / 4) 3689348814741910323) + (Go.bits .and .u64 (IntKind.u64.wrap ((Go.bits .and .u64 (a0 / 2) 6148914691236517205) + (Go.bits .and .u64 a0 6148914691236517205))) 3689348814741910323))) / 16) + (IntKind.u64.wrap ((Go.bits .and .u64 ((IntKind.u64.wrap ((Go.bits .and .u64 (a0 / 2) 6148914691236517205) + (Go.bits .and .u64 a0 6148914691236517205))) / 4) 3689348814741910323) + (Go.bits .and .u64 (IntKind.u64.wrap ((Go.bits .and .u64 (a0 / 2) 6148914691236517205) + (Go.bits .and .u64 a0 6148914691236517205))) 3689348814741910323))))) 1085102592571150095) / 256))) + ((IntKind.u64.wrap ((Go.bits .and .u64 (IntKind.u64.wrap (((IntKind.u64.wrap ((Go.bits .and .u64 ((IntKind.u64.wrap ((Go.bits .and .u64 (a0 / 2) 6148914691236517205) + (Go.bits .and .u64 a0 6148914691236517205))) / 4) 3689348814741910323) + (Go.bits .and .u64 (IntKind.u64.wrap ((Go.bits .and .u64 (a0 / 2) 6148914691236517205) + (Go.bits .and .u64 a0 6148914691236517205))) 3689348814741910323))) / 16) + (IntKind.u64.wrap ((Go.bits .and .u64 ((IntKind.u64.wrap ((Go.bits .and .u64 (a0 / 2) 6148914691236517205) + (Go.bits .and .u64 a0 6148914691236517205))) / 4) 3689348814741910323) + (Go.bits .and .u64 (IntKind.u64.wrap ((Go.bits .and .u64 (a0 / 2) 6148914691236517205) + (Go.bits .and .u64 a0 6148914691236517205))) 3689348814741910323))))) 1085102592571150095) + ((Go.bits .and .u64 (IntKind.u64.wrap (((IntKind.u64.wrap ((Go.bits .and .u64 ((IntKind.u64.wrap ((Go.bits .and .u64 (a0 / 2) 6148914691236517205) + (Go.bits .and .u64 a0 6148914691236517205))) / 4) 3689348814741910323) + (Go.bits .and .u64 (IntKind.u64.wrap ((Go.bits .and .u64 (a0 / 2) 6148914691236517205) + (Go.bits .and .u64 a0 6148914691236517205))) 3689348814741910323))) / 16) + (IntKind.u64.wrap ((Go.bits .and .u64 ((IntKind.u64.wrap ((Go.bits .and .u64 (a0 / 2) 6148914691236517205) + (Go.bits .and .u64 a0 6148914691236517205))) / 4) 3689348814741910323) + (Go.bits .and .u64 (IntKind.u64.wrap ((Go.bits .and .u64 (a0 / 2) 6148914691236517205) + (Go.bits .and .u64 a0 6148914691236517205))) 3689348814741910323))))) 1085102592571150095) / 256))) / 65536))) / 4294967296)))) 127)) = some r := h
  clear h
  obtain rfl := Option.some.inj H
  go_enter Tryd.func42, Tryd.ntmps42
  go_wp2
  go_ret
  exact ⟨by first | rfl | (simp; done) | (simp [*]; done), by repeat (first | exact Drawn0.refl _ | apply Drawn0.step)⟩

/-! ### word_Ones: function 38 -/
def word_Ones.f (a0 : Int) : Option (Int) := (bits_OnesCount64.f a0).bind fun t210 => (some t210)
set_option maxHeartbeats 8000000 in
set_option maxRecDepth 100000 in
theorem word_Ones.calls (a0 : Int) (r : Int) (w : World) (h : word_Ones.f a0 = some r) :
    Calls Tryd.prog 38 #[.int .u64 a0] w fun e w' => e = .returned (.int .i64 r) ∧ Drawn0 w w' := by
  have H : ((bits_OnesCount64.f a0).bind fun t210 => (some t210)) = some r := h
  clear h
  replace H := Option.bind_eq_some_iff.mp H
  obtain ⟨t210, A20, H⟩ := H
  replace H : (some t210) = some r := H
  have A2 := Aside0.mk A20
  clear A20
  obtain rfl := Option.some.inj H
  go_enter Tryd.func38, Tryd.ntmps38
  go_wp2_with (first | ((with_reducible refine gate_callee (f := 42) rfl ?_); refine goesL_ (some 4) rfl rfl Tryd.func42 (by kernel_rfl) rfl #[.int .u64 a0] rfl (by (try simp only [List.map_toArray, List.map_cons, List.map_nil]); first | done | rfl | (simp only [List.length_drop, List.length_take]; rfl)) ?_; (with_reducible refine (bits_OnesCount64.calls a0 t210 _ A2.out).mono ?_); rintro e w' ⟨rfl, ⟨nd, rfl⟩⟩; refine ⟨_, rfl, ?_⟩))
  go_ret
  exact ⟨by first | rfl | (simp; done) | (simp [*]; done), by repeat (first | exact Drawn0.refl _ | apply Drawn0.step)⟩

/-! ### sizes_Room: function 27 -/
def sizes_Room.f (a0 : Int) (a1 : Int) : Option (Int) := (sizes_Starts.f a0).bind fun bt211 => (if bt211.2 = 0 then ((word_Ones.f (Go.bits .andNot .u64 bt211.1 a1)).bind fun t213 => (some t213)) else (some 0))
set_option maxHeartbeats 8000000 in
set_option maxRecDepth 100000 in
theorem sizes_Room.calls (a0 : Int) (a1 : Int) (r : Int) (w : World) (HL_ : Aside0 (LAID w)) (h : sizes_Room.f a0 a1 = some r) :
    Calls Tryd.prog 27 #[.int .i64 a0, .int .u64 a1] w fun e w' => e = .returned (.int .i64 r) ∧ Below w.heap.size w w' := by
  have HB := Aside0.mk (Below.refl w.heap.size w)
  have H : ((sizes_Starts.f a0).bind fun bt211 => (if bt211.2 = 0 then ((word_Ones.f (Go.bits .andNot .u64 bt211.1 a1)).bind fun t213 => (some t213)) else (some 0))) = some r := h
  clear h
  replace H := Option.bind_eq_some_iff.mp H
  obtain ⟨⟨t211, t212⟩, A30, H⟩ := H
  replace H : (if t212 = 0 then ((word_Ones.f (Go.bits .andNot .u64 t211 a1)).bind fun t213 => (some t213)) else (some 0)) = some r := H
  have A3 := Aside0.mk A30
  clear A30
  by_cases c4 : t212 = 0
  · rw [if_pos c4] at H
    have c4b0 : (t212 == 0) = true := beq_iff_eq.mpr c4
    have c4b1 : (t212 != 0) = false := bne_eq_false_iff_eq.mpr c4
    clear c4
    replace H := Option.bind_eq_some_iff.mp H
    obtain ⟨t213, A50, H⟩ := H
    replace H : (some t213) = some r := H
    have A5 := Aside0.mk A50
    clear A50
    obtain rfl := Option.some.inj H
    go_enter Tryd.func27, Tryd.ntmps27
    go_wp2_with (first | ((with_reducible refine gate_callee (f := 13) rfl ?_); refine goesL_ (some 9) rfl rfl Tryd.func13 (by kernel_rfl) rfl #[.int .i64 a0] rfl (by (try simp only [List.map_toArray, List.map_cons, List.map_nil]); first | done | rfl | (simp only [List.length_drop, List.length_take]; rfl)) ?_; (with_reducible refine (sizes_Starts.calls a0 t211 t212 _ ?side1 A3.out).mono ?_); (case side1 => exact ⟨LAID.below HL_.out (by repeat (first | (with_reducible first | exact HB.out | apply below_alloc | apply pw_below_drewN | apply below_drew1) | exact HB.out))⟩); rintro e w6 ⟨rfl, hb⟩; refine ⟨_, rfl, ?_⟩; have n0_ := Aside0.mk (below_step (by repeat (first | (with_reducible first | exact HB.out | apply below_alloc | apply pw_below_drewN | apply below_drew1) | exact HB.out)) hb); clear HB; have HB := n0_; clear n0_; (try clear hb); (try clear hb2); (try clear hk); (try clear hi)) | ((with_reducible refine gate_callee (f := 38) rfl ?_); refine goesL_ (some 17) rfl rfl Tryd.func38 (by kernel_rfl) rfl #[.int .u64 (Go.bits .andNot .u64 t211 a1)] rfl (by (try simp only [List.map_toArray, List.map_cons, List.map_nil]); first | done | rfl | (simp only [List.length_drop, List.length_take]; rfl)) ?_; (with_reducible refine (word_Ones.calls (Go.bits .andNot .u64 t211 a1) t213 _ A5.out).mono ?_); rintro e w' ⟨rfl, ⟨nd, rfl⟩⟩; refine ⟨_, rfl, ?_⟩))
    go_ret
    exact ⟨by first | rfl | (simp [errW_none, errW_some] <;> rfl) | (simp [*, errW_none, errW_some] <;> rfl), by repeat (first | (with_reducible first | exact HB.out | apply below_alloc | apply pw_below_drewN | apply below_drew1) | exact HB.out)⟩
  · rw [if_neg c4] at H
    have c4b0 : (t212 == 0) = false := beq_eq_false_iff_ne.mpr c4
    have c4b1 : (t212 != 0) = true := bne_iff_ne.mpr c4
    obtain rfl := Option.some.inj H
    go_enter Tryd.func27, Tryd.ntmps27
    go_wp2_with (first | ((with_reducible refine gate_callee (f := 13) rfl ?_); refine goesL_ (some 9) rfl rfl Tryd.func13 (by kernel_rfl) rfl #[.int .i64 a0] rfl (by (try simp only [List.map_toArray, List.map_cons, List.map_nil]); first | done | rfl | (simp only [List.length_drop, List.length_take]; rfl)) ?_; (with_reducible refine (sizes_Starts.calls a0 t211 t212 _ ?side1 A3.out).mono ?_); (case side1 => exact ⟨LAID.below HL_.out (by repeat (first | (with_reducible first | exact HB.out | apply below_alloc | apply pw_below_drewN | apply below_drew1) | exact HB.out))⟩); rintro e w7 ⟨rfl, hb⟩; refine ⟨_, rfl, ?_⟩; have n0_ := Aside0.mk (below_step (by repeat (first | (with_reducible first | exact HB.out | apply below_alloc | apply pw_below_drewN | apply below_drew1) | exact HB.out)) hb); clear HB; have HB := n0_; clear n0_; (try clear hb); (try clear hb2); (try clear hk); (try clear hi)))
    go_ret
    exact ⟨by first | rfl | (simp [errW_none, errW_some] <;> rfl) | (simp [*, errW_none, errW_some] <;> rfl), by repeat (first | (with_reducible first | exact HB.out | apply below_alloc | apply pw_below_drewN | apply below_drew1) | exact HB.out)⟩

/-! ### sizes_Valid: function 29 -/
def sizes_Valid.f (a0 : Int) (a1 : Int) : Option (Bool) := (sizes_Starts.f a0).bind fun bt214 => (if bt214.2 = 0 then (some ((Go.bits .andNot .u64 a1 bt214.1) == 0)) else (some false))
set_option maxHeartbeats 8000000 in
set_option maxRecDepth 100000 in
theorem sizes_Valid.calls (a0 : Int) (a1 : Int) (r : Bool) (w : World) (HL_ : Aside0 (LAID w)) (h : sizes_Valid.f a0 a1 = some r) :
    Calls Tryd.prog 29 #[.int .i64 a0, .int .u64 a1] w fun e w' => e = .returned (.bool r) ∧ Below w.heap.size w w' := by
  have HB := Aside0.mk (Below.refl w.heap.size w)
  have H : ((sizes_Starts.f a0).bind fun bt214 => (if bt214.2 = 0 then (some ((Go.bits .andNot .u64 a1 bt214.1) == 0)) else (some false))) = some r := h
  clear h
  replace H := Option.bind_eq_some_iff.mp H
  obtain ⟨⟨t214, t215⟩, A30, H⟩ := H
  replace H : (if t215 = 0 then (some ((Go.bits .andNot .u64 a1 t214) == 0)) else (some false)) = some r := H
  have A3 := Aside0.mk A30
  clear A30
  by_cases c4 : t215 = 0
  · rw [if_pos c4] at H
    have c4b0 : (t215 == 0) = true := beq_iff_eq.mpr c4
    have c4b1 : (t215 != 0) = false := bne_eq_false_iff_eq.mpr c4
    clear c4
    obtain rfl := Option.some.inj H
    go_enter Tryd.func29, Tryd.ntmps29
    go_wp2_with (first | ((with_reducible refine gate_callee (f := 13) rfl ?_); refine goesL_ (some 9) rfl rfl Tryd.func13 (by kernel_rfl) rfl #[.int .i64 a0] rfl (by (try simp only [List.map_toArray, List.map_cons, List.map_nil]); first | done | rfl | (simp only [List.length_drop, List.length_take]; rfl)) ?_; (with_reducible refine (sizes_Starts.calls a0 t214 t215 _ ?side1 A3.out).mono ?_); (case side1 => exact ⟨LAID.below HL_.out (by repeat (first | (with_reducible first | exact HB.out | apply below_alloc | apply pw_below_drewN | apply below_drew1) | exact HB.out))⟩); rintro e w5 ⟨rfl, hb⟩; refine ⟨_, rfl, ?_⟩; have n0_ := Aside0.mk (below_step (by repeat (first | (with_reducible first | exact HB.out | apply below_alloc | apply pw_below_drewN | apply below_drew1) | exact HB.out)) hb); clear HB; have HB := n0_; clear n0_; (try clear hb); (try clear hb2); (try clear hk); (try clear hi)))
    go_ret
    exact ⟨by first | rfl | (simp [errW_none, errW_some] <;> rfl) | (simp [*, errW_none, errW_some] <;> rfl), by repeat (first | (with_reducible first | exact HB.out | apply below_alloc | apply pw_below_drewN | apply below_drew1) | exact HB.out)⟩
  · rw [if_neg c4] at H
    have c4b0 : (t215 == 0) = false := beq_eq_false_iff_ne.mpr c4
    have c4b1 : (t215 != 0) = true := bne_iff_ne.mpr c4
    obtain rfl := Option.some.inj H
    go_enter Tryd.func29, Tryd.ntmps29
    go_wp2_with (first | ((with_reducible refine gate_callee (f := 13) rfl ?_); refine goesL_ (some 9) rfl rfl Tryd.func13 (by kernel_rfl) rfl #[.int .i64 a0] rfl (by (try simp only [List.map_toArray, List.map_cons, List.map_nil]); first | done | rfl | (simp only [List.length_drop, List.length_take]; rfl)) ?_; (with_reducible refine (sizes_Starts.calls a0 t214 t215 _ ?side1 A3.out).mono ?_); (case side1 => exact ⟨LAID.below HL_.out (by repeat (first | (with_reducible first | exact HB.out | apply below_alloc | apply pw_below_drewN | apply below_drew1) | exact HB.out))⟩); rintro e w6 ⟨rfl, hb⟩; refine ⟨_, rfl, ?_⟩; have n0_ := Aside0.mk (below_step (by repeat (first | (with_reducible first | exact HB.out | apply below_alloc | apply pw_below_drewN | apply below_drew1) | exact HB.out)) hb); clear HB; have HB := n0_; clear n0_; (try clear hb); (try clear hb2); (try clear hk); (try clear hi)))
    go_ret
    exact ⟨by first | rfl | (simp [errW_none, errW_some] <;> rfl) | (simp [*, errW_none, errW_some] <;> rfl), by repeat (first | (with_reducible first | exact HB.out | apply below_alloc | apply pw_below_drewN | apply below_drew1) | exact HB.out)⟩

end Go.Proofs.YtjakjaohgndebaaDoor.PAll

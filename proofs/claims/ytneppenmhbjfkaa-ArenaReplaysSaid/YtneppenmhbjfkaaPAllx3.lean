-- Written by a program of the prover's (mp.py). Not trusted: Lean checks it.
import Derived.Test.YtneppenmhbjfkaaPAllx0
namespace Go.Proofs.Ytneppenmhbjfkaa.PAll
open Go.RowKit Go.Proofs.YtneppenmhbjfkaaW.PrintWords Go.Proofs.YtneppenmhbjfkaaW.PrintLast Go.Proofs.YtneppenmhbjfkaaW.PrintMore
attribute [local go_sem] max2_int min2_int max_two min_two max_three min_three max_four min_four   -- for this text's walks alone
set_option linter.unusedVariables false
set_option linter.unusedSimpArgs false

/-! ### windrowref03_Left: function 42 -/
def windrowref03_Left.j0 : Nat → Int → Int → Int → Int → Bool → Option (Int × Bool)
  | 0, _, _, _, _, _ => none
  | k + 1, x1, x2, x3, x10, x14 => if x14 = true then (some (x3, true)) else (if x10 = 4 then (if x1 = x2 then (some (x3, true)) else (some (x1, true))) else (if x10 = 5 then (some (Go.bits .or .u64 x1 x3, true)) else (if x10 = 6 then (some (Go.bits .and .u64 x1 x3, true)) else (some (0, false)))))
def windrowref03_Left.f (k : Nat) (a0 : Int) (a1 : Int) (a2 : Int) (a3 : Int) : Option (Int × Bool) := if a0 = 1 then (some (a1, true)) else (if a0 = 2 then (windrowref03_Left.j0 k a1 a2 a3 a0 (a0 == 2)) else (windrowref03_Left.j0 k a1 a2 a3 a0 (a0 == 3)))
theorem windrowref03_Left.mono_l : ∀ k, (∀ y0 y1 y2 y3 y4, LeO (windrowref03_Left.j0 k y0 y1 y2 y3 y4) (windrowref03_Left.j0 (k + 1) y0 y1 y2 y3 y4))
  | 0 => fun _ _ _ _ _ r h => by simp [windrowref03_Left.j0] at h
  | k + 1 => by
    have ih0 := windrowref03_Left.mono_l k
    · intro y0 y1 y2 y3 y4
      unfold windrowref03_Left.j0
      repeat' first
      | (with_reducible exact ih0 _ _ _ _ _)
      | (with_reducible exact LeO.refl _)
      | (with_reducible exact LeO.none _)
      | (with_reducible refine LeO.ite ?_ ?_)
      | (with_reducible refine LeO.bind ?_ (fun _ => ?_))
      | exact ih0 _ _ _ _ _
      | exact LeO.none _
      | refine LeO.ite ?_ ?_
      | refine LeO.bind ?_ (fun _ => ?_)
theorem windrowref03_Left.mono : ∀ a0 a1 a2 a3 k, LeO (windrowref03_Left.f k a0 a1 a2 a3) (windrowref03_Left.f (k + 1) a0 a1 a2 a3) := by
  intro a0 a1 a2 a3 k
  have ih0 := windrowref03_Left.mono_l k
  unfold windrowref03_Left.f
  repeat' first
      | (with_reducible exact ih0 _ _ _ _ _)
      | (with_reducible exact LeO.refl _)
      | (with_reducible exact LeO.none _)
      | (with_reducible refine LeO.ite ?_ ?_)
      | (with_reducible refine LeO.bind ?_ (fun _ => ?_))
      | exact ih0 _ _ _ _ _
      | exact LeO.none _
      | refine LeO.ite ?_ ?_
      | refine LeO.bind ?_ (fun _ => ?_)
set_option maxHeartbeats 8000000 in
set_option maxRecDepth 100000 in
theorem windrowref03_Left.calls (k : Nat) (a0 : Int) (a1 : Int) (a2 : Int) (a3 : Int) (r1 : Int) (r2 : Bool) (w : World) (h : windrowref03_Left.f k a0 a1 a2 a3 = some (r1, r2)) :
    Calls Try.prog 42 #[.int .i64 a0, .int .u64 a1, .int .u64 a2, .int .u64 a3] w fun e w' => e = .returned (.tuple #[.int .u64 r1, .bool r2]) ∧ Drawn0 w w' := by
  have H : (if a0 = 1 then (some (a1, true)) else (if a0 = 2 then (windrowref03_Left.j0 k a1 a2 a3 a0 (a0 == 2)) else (windrowref03_Left.j0 k a1 a2 a3 a0 (a0 == 3)))) = some (r1, r2) := h
  clear h
  by_cases c5 : a0 = 1
  · rw [if_pos c5] at H
    have c5b0 : (a0 == 1) = true := beq_iff_eq.mpr c5
    have c5b1 : (a0 != 1) = false := bne_eq_false_iff_eq.mpr c5
    clear c5
    simp only [Option.some.injEq, Prod.mk.injEq] at H
    obtain ⟨rfl, rfl⟩ := H
    go_enter Try.func42, Try.ntmps42
    go_wp2
    go_ret2
    exact ⟨by first | rfl | (simp; done) | (simp [*]; done), by repeat (first | exact Drawn0.refl _ | apply Drawn0.step)⟩
  · rw [if_neg c5] at H
    have c5b0 : (a0 == 1) = false := beq_eq_false_iff_ne.mpr c5
    have c5b1 : (a0 != 1) = true := bne_iff_ne.mpr c5
    have HC6 := Aside0.mk H
    clear H
    go_enter Try.func42, Try.ntmps42
    go_upto_if 14 with (fail)
    go_cut [14] (fun v14 wc => ∃ (kq : Nat) (x14_5 : Bool), v14 = .bool x14_5 ∧ Aside0 (windrowref03_Left.j0 kq a1 a2 a3 a0 x14_5 = some (r1, r2)) ∧ Aside0 (kq ≤ k) ∧ Drawn0 w wc)
    case first =>
      have H := HC6.out
      clear HC6
      by_cases c7 : a0 = 2
      · rw [if_pos c7] at H
        have c7b0 : (a0 == 2) = true := beq_iff_eq.mpr c7
        have c7b1 : (a0 != 2) = false := bne_eq_false_iff_eq.mpr c7
        clear c7
        (first | rw [c7b0] | (simp only [i64_w, i32_w]; rw [c7b0]) | rw [c7b1] | skip)
        have H' := Aside0.mk H
        clear H
        go_wp2
        go_meet
        case rel => exact ⟨_, ((a0 == 2)), (by first | rfl | (simp; done) | (simp [*]; done)), H', ⟨by first | omega | exact Nat.le_refl _⟩, by repeat (first | exact Drawn0.refl _ | apply Drawn0.step)⟩
      · rw [if_neg c7] at H
        have c7b0 : (a0 == 2) = false := beq_eq_false_iff_ne.mpr c7
        have c7b1 : (a0 != 2) = true := bne_iff_ne.mpr c7
        (first | rw [c7b0] | (simp only [i64_w, i32_w]; rw [c7b0]) | rw [c7b1] | skip)
        have H' := Aside0.mk H
        clear H
        go_wp2
        go_meet
        case rel => exact ⟨_, ((a0 == 3)), (by first | rfl | (simp; done) | (simp [*]; done)), H', ⟨by first | omega | exact Nat.le_refl _⟩, by repeat (first | exact Drawn0.refl _ | apply Drawn0.step)⟩
    case rest =>
      clear HC6
      try clear p2
      try clear c4
      try clear c5
      try clear c5b0
      try clear c5b1
      try clear c7
      try clear c7b0
      try clear c7b1
      obtain ⟨kq, x14_5, rfl, HA, HJ5, ⟨mc5, rfl⟩⟩ := hcut
      cases kq with
      | zero => exact absurd HA.out (by simp [windrowref03_Left.j0])
      | succ kj5 =>
        have H := HA.out
        clear HA
        simp only [windrowref03_Left.j0] at H
        by_cases c8 : x14_5 = true
        · subst c8
          have H1 : (some (a3, true)) = some (r1, r2) := by rw [if_pos rfl] at H; exact H
          clear H
          have H := H1
          clear H1
          simp only [Option.some.injEq, Prod.mk.injEq] at H
          obtain ⟨rfl, rfl⟩ := H
          go_wp2
          go_ret2
          exact ⟨by first | rfl | (simp; done) | (simp [*]; done), by repeat (first | exact Drawn0.refl _ | apply Drawn0.step)⟩
        · replace c8 := Bool.eq_false_iff.mpr c8
          subst c8
          have H1 : (if a0 = 4 then (if a1 = a2 then (some (a3, true)) else (some (a1, true))) else (if a0 = 5 then (some (Go.bits .or .u64 a1 a3, true)) else (if a0 = 6 then (some (Go.bits .and .u64 a1 a3, true)) else (some (0, false))))) = some (r1, r2) := by rw [if_neg (show ¬ (false = true) by decide)] at H; exact H
          clear H
          have H := H1
          clear H1
          by_cases c9 : a0 = 4
          · rw [if_pos c9] at H
            have c9b0 : (a0 == 4) = true := beq_iff_eq.mpr c9
            have c9b1 : (a0 != 4) = false := bne_eq_false_iff_eq.mpr c9
            clear c9
            by_cases c10 : a1 = a2
            · rw [if_pos c10] at H
              have c10b0 : (a1 == a2) = true := beq_iff_eq.mpr c10
              have c10b1 : (a1 != a2) = false := bne_eq_false_iff_eq.mpr c10
              clear c10
              simp only [Option.some.injEq, Prod.mk.injEq] at H
              obtain ⟨rfl, rfl⟩ := H
              go_wp2
              go_ret2
              exact ⟨by first | rfl | (simp; done) | (simp [*]; done), by repeat (first | exact Drawn0.refl _ | apply Drawn0.step)⟩
            · rw [if_neg c10] at H
              have c10b0 : (a1 == a2) = false := beq_eq_false_iff_ne.mpr c10
              have c10b1 : (a1 != a2) = true := bne_iff_ne.mpr c10
              simp only [Option.some.injEq, Prod.mk.injEq] at H
              obtain ⟨rfl, rfl⟩ := H
              go_wp2
              go_ret2
              exact ⟨by first | rfl | (simp; done) | (simp [*]; done), by repeat (first | exact Drawn0.refl _ | apply Drawn0.step)⟩
          · rw [if_neg c9] at H
            have c9b0 : (a0 == 4) = false := beq_eq_false_iff_ne.mpr c9
            have c9b1 : (a0 != 4) = true := bne_iff_ne.mpr c9
            by_cases c11 : a0 = 5
            · rw [if_pos c11] at H
              have c11b0 : (a0 == 5) = true := beq_iff_eq.mpr c11
              have c11b1 : (a0 != 5) = false := bne_eq_false_iff_eq.mpr c11
              clear c11
              simp only [Option.some.injEq, Prod.mk.injEq] at H
              obtain ⟨rfl, rfl⟩ := H
              go_wp2
              go_ret2
              exact ⟨by first | rfl | (simp; done) | (simp [*]; done), by repeat (first | exact Drawn0.refl _ | apply Drawn0.step)⟩
            · rw [if_neg c11] at H
              have c11b0 : (a0 == 5) = false := beq_eq_false_iff_ne.mpr c11
              have c11b1 : (a0 != 5) = true := bne_iff_ne.mpr c11
              by_cases c12 : a0 = 6
              · rw [if_pos c12] at H
                have c12b0 : (a0 == 6) = true := beq_iff_eq.mpr c12
                have c12b1 : (a0 != 6) = false := bne_eq_false_iff_eq.mpr c12
                clear c12
                simp only [Option.some.injEq, Prod.mk.injEq] at H
                obtain ⟨rfl, rfl⟩ := H
                go_wp2
                go_ret2
                exact ⟨by first | rfl | (simp; done) | (simp [*]; done), by repeat (first | exact Drawn0.refl _ | apply Drawn0.step)⟩
              · rw [if_neg c12] at H
                have c12b0 : (a0 == 6) = false := beq_eq_false_iff_ne.mpr c12
                have c12b1 : (a0 != 6) = true := bne_iff_ne.mpr c12
                simp only [Option.some.injEq, Prod.mk.injEq] at H
                obtain ⟨rfl, rfl⟩ := H
                go_wp2
                go_ret2
                exact ⟨by first | rfl | (simp; done) | (simp [*]; done), by repeat (first | exact Drawn0.refl _ | apply Drawn0.step)⟩

/-! ### windrowref03_Replay: function 26 -/
mutual
def windrowref03_Replay.l0 : Nat → List (S76) → List Int → Int → Option (List Int × Int × Int)
  | 0, _, _, _ => none
  | k + 1, x1, x7, x8 => if x8 < (x1.length : Int) then (if 0 ≤ x8 then (if ((rd_T76 x1 x8).f2) < 0 then (windrowref03_Replay.j1 k x1 x7 x8 true ((rd_T76 x1 x8).f0) ((rd_T76 x1 x8).f1) ((rd_T76 x1 x8).f2) ((rd_T76 x1 x8).f3) ((rd_T76 x1 x8).f4) ((rd_T76 x1 x8).f5) ((rd_T76 x1 x8).f6)) else (windrowref03_Replay.j1 k x1 x7 x8 (decide (((rd_T76 x1 x8).f2) ≥ (x7.length : Int))) ((rd_T76 x1 x8).f0) ((rd_T76 x1 x8).f1) ((rd_T76 x1 x8).f2) ((rd_T76 x1 x8).f3) ((rd_T76 x1 x8).f4) ((rd_T76 x1 x8).f5) ((rd_T76 x1 x8).f6))) else (none)) else (some (x7, 0, 0))
def windrowref03_Replay.j1 : Nat → List (S76) → List Int → Int → Bool → Int → Int → Int → Int → Int → Int → Int → Option (List Int × Int × Int)
  | 0, _, _, _, _, _, _, _, _, _, _, _ => none
  | k + 1, x1, x7, x8, x34, x122000, x122001, x122002, x122003, x122004, x122005, x122006 => if x34 = true then (some (([] : List Int), x8, 5)) else (if 0 ≤ x122002 then (if x122002 < (x7.length : Int) then ((windrowref03_Left.f k x122001 (rd x7 x122002) x122003 x122004).bind fun bt123 => (if bt123.2 = true then (if x122005 = (rd x7 x122002) then (if x122006 = bt123.1 then (windrowref03_Replay.l0 k x1 (x7.set (x122002 : Int).toNat bt123.1) (wrap64 (x8 + 1))) else (some (([] : List Int), x8, 4))) else (some (([] : List Int), x8, 4))) else (some (([] : List Int), x8, 4)))) else (none)) else (none))
end
def windrowref03_Replay.f (k : Nat) (l0 : List Int) (l1 : List (S76)) : Option (List Int × Int × Int) := if ([] : List Int).length + l0.length < 17592186044416 then (windrowref03_Replay.l0 k l1 (([] : List Int) ++ l0) 0) else (none)
theorem windrowref03_Replay.mono_l : ∀ k, (∀ y0 y1 y2, LeO (windrowref03_Replay.l0 k y0 y1 y2) (windrowref03_Replay.l0 (k + 1) y0 y1 y2)) ∧ (∀ y0 y1 y2 y3 y4 y5 y6 y7 y8 y9 y10, LeO (windrowref03_Replay.j1 k y0 y1 y2 y3 y4 y5 y6 y7 y8 y9 y10) (windrowref03_Replay.j1 (k + 1) y0 y1 y2 y3 y4 y5 y6 y7 y8 y9 y10))
  | 0 => ⟨fun _ _ _ r h => by simp [windrowref03_Replay.l0] at h, fun _ _ _ _ _ _ _ _ _ _ _ r h => by simp [windrowref03_Replay.j1] at h⟩
  | k + 1 => by
    obtain ⟨ih0, ih1⟩ := windrowref03_Replay.mono_l k
    refine ⟨?_, ?_⟩
    · intro y0 y1 y2
      unfold windrowref03_Replay.l0
      repeat' first
      | (with_reducible exact ih0 _ _ _)
      | (with_reducible exact ih1 _ _ _ _ _ _ _ _ _ _ _)
      | (with_reducible exact windrowref03_Left.mono _ _ _ _ _)
      | (with_reducible exact LeO.refl _)
      | (with_reducible exact LeO.none _)
      | (with_reducible refine LeO.ite ?_ ?_)
      | (with_reducible refine LeO.bind ?_ (fun _ => ?_))
      | exact ih0 _ _ _
      | exact ih1 _ _ _ _ _ _ _ _ _ _ _
      | exact windrowref03_Left.mono _ _ _ _ _
      | exact LeO.none _
      | refine LeO.ite ?_ ?_
      | refine LeO.bind ?_ (fun _ => ?_)
    · intro y0 y1 y2 y3 y4 y5 y6 y7 y8 y9 y10
      unfold windrowref03_Replay.j1
      repeat' first
      | (with_reducible exact ih0 _ _ _)
      | (with_reducible exact ih1 _ _ _ _ _ _ _ _ _ _ _)
      | (with_reducible exact windrowref03_Left.mono _ _ _ _ _)
      | (with_reducible exact LeO.refl _)
      | (with_reducible exact LeO.none _)
      | (with_reducible refine LeO.ite ?_ ?_)
      | (with_reducible refine LeO.bind ?_ (fun _ => ?_))
      | exact ih0 _ _ _
      | exact ih1 _ _ _ _ _ _ _ _ _ _ _
      | exact windrowref03_Left.mono _ _ _ _ _
      | exact LeO.none _
      | refine LeO.ite ?_ ?_
      | refine LeO.bind ?_ (fun _ => ?_)
theorem windrowref03_Replay.mono : ∀ a0 a1 k, LeO (windrowref03_Replay.f k a0 a1) (windrowref03_Replay.f (k + 1) a0 a1) := by
  intro a0 a1 k
  obtain ⟨ih0, ih1⟩ := windrowref03_Replay.mono_l k
  unfold windrowref03_Replay.f
  repeat' first
      | (with_reducible exact ih0 _ _ _)
      | (with_reducible exact ih1 _ _ _ _ _ _ _ _ _ _ _)
      | (with_reducible exact windrowref03_Left.mono _ _ _ _ _)
      | (with_reducible exact LeO.refl _)
      | (with_reducible exact LeO.none _)
      | (with_reducible refine LeO.ite ?_ ?_)
      | (with_reducible refine LeO.bind ?_ (fun _ => ?_))
      | exact ih0 _ _ _
      | exact ih1 _ _ _ _ _ _ _ _ _ _ _
      | exact windrowref03_Left.mono _ _ _ _ _
      | exact LeO.none _
      | refine LeO.ite ?_ ?_
      | refine LeO.bind ?_ (fun _ => ?_)
set_option maxHeartbeats 8000000 in
set_option maxRecDepth 100000 in
theorem windrowref03_Replay.calls (k : Nat) (A0 : Option Addr) (c0 : Nat) (l0 : List Int) (A1 : Option Addr) (c1 : Nat) (l1 : List (S76)) (r1 : List Int) (r2 : Int) (r3 : Int) (w : World) (hr0 : Kd.C (Kd.int .u64) w A0 l0.length l0) (hc0 : l0.length ≤ c0) (hr1 : Kd.C k76 w A1 l1.length l1) (hc1 : l1.length ≤ c1) (h : windrowref03_Replay.f k l0 l1 = some (r1, r2, r3)) :
    Calls Try.prog 26 #[.slice A0 l0.length c0, .slice A1 l1.length c1] w fun e w' => ∃ v0_ : Value, e = .returned (.tuple #[v0_, .int .i64 r2, .int .i64 r3]) ∧ Kd.R (Kd.int .u64) 23 w' w.heap.size (fun _ => True) v0_ r1 ∧ Below w.heap.size w w' := by
  have hu76 := Try.underlying76
  have HR0 := Aside0.mk hr0
  have HC0 := Aside0.mk hc0
  clear hr0 hc0
  have HR1 := Aside0.mk hr1
  have HC1 := Aside0.mk hc1
  clear hr1 hc1
  have HB := Aside0.mk (Below.refl w.heap.size w)
  have H : (if ([] : List Int).length + l0.length < 17592186044416 then (windrowref03_Replay.l0 k l1 (([] : List Int) ++ l0) 0) else (none)) = some (r1, r2, r3) := h
  clear h
  by_cases c3 : ([] : List Int).length + l0.length < 17592186044416
  · rw [if_pos c3] at H
    have LMc3 := Aside0.mk c3
    clear c3
    obtain ⟨y117, hy117⟩ : ∃ y_ : List Int, y_ = (([] : List Int) ++ l0) := ⟨_, rfl⟩
    replace H : (windrowref03_Replay.l0 k l1 y117 0) = some (r1, r2, r3) := by first | (rw [hy117]; with_reducible exact H) | (have H2_ := (Option.bind_some _ _).symm.trans H; rw [hy117]; with_reducible exact H2_) | (have H2_ := (Option.bind_some _ _).symm.trans H; with_reducible exact H2_) | with_reducible exact H | (rw [hy117]; exact H) | exact H
    have Ny117 := Aside0.mk hy117
    clear hy117
    have H' := Aside0.mk H
    clear H
    go_enter Try.func26, Try.ntmps26
    go_wp2_with (first | ((with_reducible refine gate_builtin (b := .append) (xs := #[.tmp 12, .tmp 13]) rfl ?_); (try (refine gate_guard (by rfl) ?_; dsimp only)); at_builtin; refine Kd.R_append_rows (Kd.int .u64) (w0 := w) w.heap.size rfl (.tmp 12) (.tmp 13) 22 23 (.int .u64 0) 8 rfl Try.underlying22 info23 rfl (by decide) (by omega) (.slice none 0 0) ([] : List Int) l0 _ _ _ (fun _ => True) (fun _ => False) rfl rfl ?aO ?aR (fun _ _ h => h) (fun _ h => h.elim) ?aF ?aB ?aS ?aL ?_; (case aR => repeat (first | exact HR0.out | (with_reducible refine Kd.C_alloc ?_ _) | (with_reducible refine Kd.C_drewN ?_ _) | (with_reducible refine Kd.C_drew ?_))); (case aB => exact (by repeat (first | (with_reducible first | exact HB.out | apply below_alloc | apply pw_below_drewN | apply below_drew1) | exact HB.out))); (case aF => exact (fun _ _ => trivial)); (case aO => exact ((Kd.R_nil _ _ _ _ (fun _ => True)))); (case aS => exact (below_size (by repeat (first | (with_reducible first | exact HB.out | apply below_alloc | apply pw_below_drewN | apply below_drew1) | exact HB.out)))); (case aL => have := LMc3.out; omega); intro v118 w4 ho hb hg hat; rw [← Ny117.out] at ho; have n0_ := Aside0.mk (hb); have n1_ := Aside0.mk (ho); clear HB; have HB := n0_; have HO119 := n1_; clear n0_ n1_; clear ho hb hg hat))
    repeat (go_quiet (first | ((with_reducible refine gate_builtin (b := .append) (xs := #[.tmp 12, .tmp 13]) rfl ?_); (try (refine gate_guard (by rfl) ?_; dsimp only)); at_builtin; refine Kd.R_append_rows (Kd.int .u64) (w0 := w) w.heap.size rfl (.tmp 12) (.tmp 13) 22 23 (.int .u64 0) 8 rfl Try.underlying22 info23 rfl (by decide) (by omega) (.slice none 0 0) ([] : List Int) l0 _ _ _ (fun _ => True) (fun _ => False) rfl rfl ?aO ?aR (fun _ _ h => h) (fun _ h => h.elim) ?aF ?aB ?aS ?aL ?_; (case aR => repeat (first | exact HR0.out | (with_reducible refine Kd.C_alloc ?_ _) | (with_reducible refine Kd.C_drewN ?_ _) | (with_reducible refine Kd.C_drew ?_))); (case aB => exact (by repeat (first | (with_reducible first | exact HB.out | apply below_alloc | apply pw_below_drewN | apply below_drew1) | exact HB.out))); (case aF => exact (fun _ _ => trivial)); (case aO => exact ((Kd.R_nil _ _ _ _ (fun _ => True)))); (case aS => exact (below_size (by repeat (first | (with_reducible first | exact HB.out | apply below_alloc | apply pw_below_drewN | apply below_drew1) | exact HB.out)))); (case aL => have := LMc3.out; omega); intro v118 w4 ho hb hg hat; rw [← Ny117.out] at ho; have n0_ := Aside0.mk (hb); have n1_ := Aside0.mk (ho); clear HB; have HB := n0_; have HO119 := n1_; clear n0_ n1_; clear ho hb hg hat)); try go_wp2_with (first | ((with_reducible refine gate_builtin (b := .append) (xs := #[.tmp 12, .tmp 13]) rfl ?_); (try (refine gate_guard (by rfl) ?_; dsimp only)); at_builtin; refine Kd.R_append_rows (Kd.int .u64) (w0 := w) w.heap.size rfl (.tmp 12) (.tmp 13) 22 23 (.int .u64 0) 8 rfl Try.underlying22 info23 rfl (by decide) (by omega) (.slice none 0 0) ([] : List Int) l0 _ _ _ (fun _ => True) (fun _ => False) rfl rfl ?aO ?aR (fun _ _ h => h) (fun _ h => h.elim) ?aF ?aB ?aS ?aL ?_; (case aR => repeat (first | exact HR0.out | (with_reducible refine Kd.C_alloc ?_ _) | (with_reducible refine Kd.C_drewN ?_ _) | (with_reducible refine Kd.C_drew ?_))); (case aB => exact (by repeat (first | (with_reducible first | exact HB.out | apply below_alloc | apply pw_below_drewN | apply below_drew1) | exact HB.out))); (case aF => exact (fun _ _ => trivial)); (case aO => exact ((Kd.R_nil _ _ _ _ (fun _ => True)))); (case aS => exact (below_size (by repeat (first | (with_reducible first | exact HB.out | apply below_alloc | apply pw_below_drewN | apply below_drew1) | exact HB.out)))); (case aL => have := LMc3.out; omega); intro v118 w4 ho hb hg hat; rw [← Ny117.out] at ho; have n0_ := Aside0.mk (hb); have n1_ := Aside0.mk (ho); clear HB; have HB := n0_; have HO119 := n1_; clear n0_ n1_; clear ho hb hg hat)))
    go_loopg [8] k (fun kq v8 w' => ∃ (x7_1 : List Int) (x8_1 : Int), v8 = .int .i64 x8_1 ∧ Aside0 (windrowref03_Replay.l0 kq l1 x7_1 x8_1 = some (r1, r2, r3)) ∧ Aside0 (kq ≤ k) ∧ Aside0 (Kd.R (Kd.int .u64) 23 w' w.heap.size (fun _ => True) v118 x7_1) ∧ Aside0 (Below w.heap.size w w'))
    case atStart => exact ⟨(y117), (0), (by first | rfl | (simp; done) | (simp [*]; done)), H', ⟨Nat.le_refl _⟩, ⟨by (with_reducible repeat (first | apply Kd.R_alloc | apply Kd.R_drewN | apply Kd.R_drew)); exact HO119.out⟩, ⟨by repeat (first | (with_reducible first | exact HB.out | apply below_alloc | apply pw_below_drewN | apply below_drew1) | exact HB.out)⟩⟩
    case round =>
      clear H'
      try clear c1
      try clear c2
      try clear p2
      try clear c3
      obtain ⟨x7_1, x8_1, rfl, HA, HK1, HO_7, HB⟩ := hrel
      cases gk with
      | zero => exact absurd HA.out (by simp [windrowref03_Replay.l0])
      | succ k1 =>
        have H := HA.out
        clear HA
        simp only [windrowref03_Replay.l0] at H
        by_cases c5 : x8_1 < (l1.length : Int)
        · rw [if_pos c5] at H
          have c5b0 : decide (x8_1 < (l1.length : Int)) = true := decide_eq_true c5
          clear c5
          by_cases c6 : 0 ≤ x8_1
          · rw [if_pos c6] at H
            have c6b0 : decide (0 ≤ x8_1) = true := decide_eq_true c6
            clear c6
            have HC7 := Aside0.mk H
            clear H
            have p120 : 0 ≤ (x8_1 : Int) := of_decide_eq_true (by first | (with_reducible assumption) | assumption)
            have q120 : x8_1 < (l1.length : Int) := of_decide_eq_true (by first | (with_reducible assumption) | assumption)
            obtain ⟨ad120, e120, hx120_0, hx120_1, hx120_2, hx120_3, hx120_4, hx120_5, hx120_6⟩ := at_T76 HR1.out x8_1 p120 q120
            cases e120
            replace hx120_0 := (HB.out.cell (World.block_lt_of_cell? w _ hx120_0)).trans hx120_0
            replace hx120_1 := (HB.out.cell (World.block_lt_of_cell? w _ hx120_1)).trans hx120_1
            replace hx120_2 := (HB.out.cell (World.block_lt_of_cell? w _ hx120_2)).trans hx120_2
            replace hx120_3 := (HB.out.cell (World.block_lt_of_cell? w _ hx120_3)).trans hx120_3
            replace hx120_4 := (HB.out.cell (World.block_lt_of_cell? w _ hx120_4)).trans hx120_4
            replace hx120_5 := (HB.out.cell (World.block_lt_of_cell? w _ hx120_5)).trans hx120_5
            replace hx120_6 := (HB.out.cell (World.block_lt_of_cell? w _ hx120_6)).trans hx120_6
            replace p120 := eq_true p120
            replace q120 := eq_true q120
            go_upto_region 7 with (first | ((with_reducible refine gate_dst (N := 9) rfl ?_); (try (refine gate_guard (by rfl) ?_; dsimp only)); refine box_event ?hg (N := 9) ?hd (cs := #[.int .i64 0, .int .i64 0, .int .i64 0, .int .u64 0, .int .u64 0, .int .u64 0, .int .u64 0]) (t := 76) ?hr ?_; (case hd => rfl); (case hg => rfl); (case hr => first | (go_simp; done) | (go_simp; rfl)); intro gb121 hg w8 hbox hb; have n0_ := Aside0.mk (Kd.R_below (by (with_reducible repeat (first | apply Kd.R_alloc | apply Kd.R_drewN | apply Kd.R_drew)); exact HO_7.out) hb); have n1_ := Aside0.mk (below_step (by repeat (first | (with_reducible first | exact HB.out | apply below_alloc | apply pw_below_drewN | apply below_drew1) | exact HB.out)) hb); have n2_ := Aside0.mk (hbox); have n3_ := Aside0.mk ((by rw [hg]; exact (below_size (by repeat (first | (with_reducible first | exact HB.out | apply below_alloc | apply pw_below_drewN | apply below_drew1) | exact HB.out))) : w.heap.size ≤ gb121)); have n4_ := Aside0.mk ((by rw [hg]; exact (below_size (by repeat (first | (with_reducible first | exact HB.out | apply below_alloc | apply pw_below_drewN | apply below_drew1) | exact HB.out))) : w.heap.size ≤ gb121)); clear HO_7; clear HB; have HO_7 := n0_; have HB := n1_; have BK121 := n2_; have GW121 := n3_; have GE121 := n4_; clear n0_ n1_ n2_ n3_ n4_; clear hb hbox hg; have hcz9_0 : w8.cell? ⟨gb121, 0, none⟩ = some (.int .i64 0) := (blk_cell BK121.out 0).trans rfl; have hcz9_1 : w8.cell? ⟨gb121, 1, none⟩ = some (.int .i64 0) := (blk_cell BK121.out 1).trans rfl; have hcz9_2 : w8.cell? ⟨gb121, 2, none⟩ = some (.int .i64 0) := (blk_cell BK121.out 2).trans rfl; have hcz9_3 : w8.cell? ⟨gb121, 3, none⟩ = some (.int .u64 0) := (blk_cell BK121.out 3).trans rfl; have hcz9_4 : w8.cell? ⟨gb121, 4, none⟩ = some (.int .u64 0) := (blk_cell BK121.out 4).trans rfl; have hcz9_5 : w8.cell? ⟨gb121, 5, none⟩ = some (.int .u64 0) := (blk_cell BK121.out 5).trans rfl; have hcz9_6 : w8.cell? ⟨gb121, 6, none⟩ = some (.int .u64 0) := (blk_cell BK121.out 6).trans rfl; have hfz9_0 := blk_frozen BK121.out 0; have hfz9_1 := blk_frozen BK121.out 1; have hfz9_2 := blk_frozen BK121.out 2; have hfz9_3 := blk_frozen BK121.out 3; have hfz9_4 := blk_frozen BK121.out 4; have hfz9_5 := blk_frozen BK121.out 5; have hfz9_6 := blk_frozen BK121.out 6))
            repeat (go_quiet (first | ((with_reducible refine gate_dst (N := 9) rfl ?_); (try (refine gate_guard (by rfl) ?_; dsimp only)); refine box_event ?hg (N := 9) ?hd (cs := #[.int .i64 0, .int .i64 0, .int .i64 0, .int .u64 0, .int .u64 0, .int .u64 0, .int .u64 0]) (t := 76) ?hr ?_; (case hd => rfl); (case hg => rfl); (case hr => first | (go_simp; done) | (go_simp; rfl)); intro gb121 hg w8 hbox hb; have n0_ := Aside0.mk (Kd.R_below (by (with_reducible repeat (first | apply Kd.R_alloc | apply Kd.R_drewN | apply Kd.R_drew)); exact HO_7.out) hb); have n1_ := Aside0.mk (below_step (by repeat (first | (with_reducible first | exact HB.out | apply below_alloc | apply pw_below_drewN | apply below_drew1) | exact HB.out)) hb); have n2_ := Aside0.mk (hbox); have n3_ := Aside0.mk ((by rw [hg]; exact (below_size (by repeat (first | (with_reducible first | exact HB.out | apply below_alloc | apply pw_below_drewN | apply below_drew1) | exact HB.out))) : w.heap.size ≤ gb121)); have n4_ := Aside0.mk ((by rw [hg]; exact (below_size (by repeat (first | (with_reducible first | exact HB.out | apply below_alloc | apply pw_below_drewN | apply below_drew1) | exact HB.out))) : w.heap.size ≤ gb121)); clear HO_7; clear HB; have HO_7 := n0_; have HB := n1_; have BK121 := n2_; have GW121 := n3_; have GE121 := n4_; clear n0_ n1_ n2_ n3_ n4_; clear hb hbox hg; have hcz9_0 : w8.cell? ⟨gb121, 0, none⟩ = some (.int .i64 0) := (blk_cell BK121.out 0).trans rfl; have hcz9_1 : w8.cell? ⟨gb121, 1, none⟩ = some (.int .i64 0) := (blk_cell BK121.out 1).trans rfl; have hcz9_2 : w8.cell? ⟨gb121, 2, none⟩ = some (.int .i64 0) := (blk_cell BK121.out 2).trans rfl; have hcz9_3 : w8.cell? ⟨gb121, 3, none⟩ = some (.int .u64 0) := (blk_cell BK121.out 3).trans rfl; have hcz9_4 : w8.cell? ⟨gb121, 4, none⟩ = some (.int .u64 0) := (blk_cell BK121.out 4).trans rfl; have hcz9_5 : w8.cell? ⟨gb121, 5, none⟩ = some (.int .u64 0) := (blk_cell BK121.out 5).trans rfl; have hcz9_6 : w8.cell? ⟨gb121, 6, none⟩ = some (.int .u64 0) := (blk_cell BK121.out 6).trans rfl; have hfz9_0 := blk_frozen BK121.out 0; have hfz9_1 := blk_frozen BK121.out 1; have hfz9_2 := blk_frozen BK121.out 2; have hfz9_3 := blk_frozen BK121.out 3; have hfz9_4 := blk_frozen BK121.out 4; have hfz9_5 := blk_frozen BK121.out 5; have hfz9_6 := blk_frozen BK121.out 6)); go_upto_region 7 with (first | ((with_reducible refine gate_dst (N := 9) rfl ?_); (try (refine gate_guard (by rfl) ?_; dsimp only)); refine box_event ?hg (N := 9) ?hd (cs := #[.int .i64 0, .int .i64 0, .int .i64 0, .int .u64 0, .int .u64 0, .int .u64 0, .int .u64 0]) (t := 76) ?hr ?_; (case hd => rfl); (case hg => rfl); (case hr => first | (go_simp; done) | (go_simp; rfl)); intro gb121 hg w8 hbox hb; have n0_ := Aside0.mk (Kd.R_below (by (with_reducible repeat (first | apply Kd.R_alloc | apply Kd.R_drewN | apply Kd.R_drew)); exact HO_7.out) hb); have n1_ := Aside0.mk (below_step (by repeat (first | (with_reducible first | exact HB.out | apply below_alloc | apply pw_below_drewN | apply below_drew1) | exact HB.out)) hb); have n2_ := Aside0.mk (hbox); have n3_ := Aside0.mk ((by rw [hg]; exact (below_size (by repeat (first | (with_reducible first | exact HB.out | apply below_alloc | apply pw_below_drewN | apply below_drew1) | exact HB.out))) : w.heap.size ≤ gb121)); have n4_ := Aside0.mk ((by rw [hg]; exact (below_size (by repeat (first | (with_reducible first | exact HB.out | apply below_alloc | apply pw_below_drewN | apply below_drew1) | exact HB.out))) : w.heap.size ≤ gb121)); clear HO_7; clear HB; have HO_7 := n0_; have HB := n1_; have BK121 := n2_; have GW121 := n3_; have GE121 := n4_; clear n0_ n1_ n2_ n3_ n4_; clear hb hbox hg; have hcz9_0 : w8.cell? ⟨gb121, 0, none⟩ = some (.int .i64 0) := (blk_cell BK121.out 0).trans rfl; have hcz9_1 : w8.cell? ⟨gb121, 1, none⟩ = some (.int .i64 0) := (blk_cell BK121.out 1).trans rfl; have hcz9_2 : w8.cell? ⟨gb121, 2, none⟩ = some (.int .i64 0) := (blk_cell BK121.out 2).trans rfl; have hcz9_3 : w8.cell? ⟨gb121, 3, none⟩ = some (.int .u64 0) := (blk_cell BK121.out 3).trans rfl; have hcz9_4 : w8.cell? ⟨gb121, 4, none⟩ = some (.int .u64 0) := (blk_cell BK121.out 4).trans rfl; have hcz9_5 : w8.cell? ⟨gb121, 5, none⟩ = some (.int .u64 0) := (blk_cell BK121.out 5).trans rfl; have hcz9_6 : w8.cell? ⟨gb121, 6, none⟩ = some (.int .u64 0) := (blk_cell BK121.out 6).trans rfl; have hfz9_0 := blk_frozen BK121.out 0; have hfz9_1 := blk_frozen BK121.out 1; have hfz9_2 := blk_frozen BK121.out 2; have hfz9_3 := blk_frozen BK121.out 3; have hfz9_4 := blk_frozen BK121.out 4; have hfz9_5 := blk_frozen BK121.out 5; have hfz9_6 := blk_frozen BK121.out 6)))
            (try simp only [Act.put, List.setIfInBounds_toArray, List.set_cons_zero, List.set_cons_succ])
            go_cut [34] (fun v34 wc => ∃ (kq : Nat) (x34_6 : Bool), v34 = .bool x34_6 ∧ Aside0 (windrowref03_Replay.j1 kq l1 x7_1 x8_1 x34_6 ((rd_T76 l1 x8_1).f0) ((rd_T76 l1 x8_1).f1) ((rd_T76 l1 x8_1).f2) ((rd_T76 l1 x8_1).f3) ((rd_T76 l1 x8_1).f4) ((rd_T76 l1 x8_1).f5) ((rd_T76 l1 x8_1).f6) = some (r1, r2, r3)) ∧ Aside0 (kq ≤ k1) ∧ Aside0 (Kd.R (Kd.int .u64) 23 wc w.heap.size (fun _ => True) v118 x7_1) ∧ Aside0 (wc.heap[gb121]? = some (.cells #[.int .i64 ((rd_T76 l1 x8_1).f0), .int .i64 ((rd_T76 l1 x8_1).f1), .int .i64 ((rd_T76 l1 x8_1).f2), .int .u64 ((rd_T76 l1 x8_1).f3), .int .u64 ((rd_T76 l1 x8_1).f4), .int .u64 ((rd_T76 l1 x8_1).f5), .int .u64 ((rd_T76 l1 x8_1).f6)] 76 (0, 0))) ∧ Aside0 (Below w.heap.size w wc))
            case first =>
              have H := HC7.out
              clear HC7
              by_cases c10 : ((rd_T76 l1 x8_1).f2) < 0
              · rw [if_pos c10] at H
                have c10b0 : decide (((rd_T76 l1 x8_1).f2) < 0) = true := decide_eq_true c10
                clear c10
                (first | rw [c10b0] | (simp only [i64_w, i32_w]; rw [c10b0]) | skip)
                have H' := Aside0.mk H
                clear H
                have hcz11_0 : w8.cell? ⟨gb121, 0, none⟩ = some (.int .i64 0) := (blk_cell BK121.out 0).trans rfl
                have hcz11_1 : w8.cell? ⟨gb121, 1, none⟩ = some (.int .i64 0) := (blk_cell BK121.out 1).trans rfl
                have hcz11_2 : w8.cell? ⟨gb121, 2, none⟩ = some (.int .i64 0) := (blk_cell BK121.out 2).trans rfl
                have hcz11_3 : w8.cell? ⟨gb121, 3, none⟩ = some (.int .u64 0) := (blk_cell BK121.out 3).trans rfl
                have hcz11_4 : w8.cell? ⟨gb121, 4, none⟩ = some (.int .u64 0) := (blk_cell BK121.out 4).trans rfl
                have hcz11_5 : w8.cell? ⟨gb121, 5, none⟩ = some (.int .u64 0) := (blk_cell BK121.out 5).trans rfl
                have hcz11_6 : w8.cell? ⟨gb121, 6, none⟩ = some (.int .u64 0) := (blk_cell BK121.out 6).trans rfl
                have hfz11_0 := blk_frozen BK121.out 0
                have hfz11_1 := blk_frozen BK121.out 1
                have hfz11_2 := blk_frozen BK121.out 2
                have hfz11_3 := blk_frozen BK121.out 3
                have hfz11_4 := blk_frozen BK121.out 4
                have hfz11_5 := blk_frozen BK121.out 5
                have hfz11_6 := blk_frozen BK121.out 6
                go_wp2
                repeat (go_quiet (fail); try go_wp2)
                go_meet
                case rel => exact ⟨_, (true), (by first | rfl | (simp; done) | (simp [*]; done)), H', ⟨by have := HK1.out; first | omega | exact Nat.le_refl _⟩, ⟨by (with_reducible repeat (first | apply Kd.R_alloc | apply Kd.R_drewN | apply Kd.R_drew)); exact Kd.R_mono (Kd.R_far (p := ⟨gb121, 6, none⟩) (Kd.R_far (p := ⟨gb121, 5, none⟩) (Kd.R_far (p := ⟨gb121, 4, none⟩) (Kd.R_far (p := ⟨gb121, 3, none⟩) (Kd.R_far (p := ⟨gb121, 2, none⟩) (Kd.R_far (p := ⟨gb121, 1, none⟩) (Kd.R_far (p := ⟨gb121, 0, none⟩) (Kd.R_types HO_7.out BK121.out (by decide)) (fun _ hk => hk.2) (.int .i64 ((rd_T76 l1 x8_1).f0))) (fun _ hk => hk.2) (.int .i64 ((rd_T76 l1 x8_1).f1))) (fun _ hk => hk.2) (.int .i64 ((rd_T76 l1 x8_1).f2))) (fun _ hk => hk.2) (.int .u64 ((rd_T76 l1 x8_1).f3))) (fun _ hk => hk.2) (.int .u64 ((rd_T76 l1 x8_1).f4))) (fun _ hk => hk.2) (.int .u64 ((rd_T76 l1 x8_1).f5))) (fun _ hk => hk.2) (.int .u64 ((rd_T76 l1 x8_1).f6))) (fun _ hk => trivial)⟩, ⟨by (with_reducible repeat (first | refine blk_drewN ?_ _ | refine blk_drew ?_ | refine blk_alloc ?_ _)); refine blk_put (cs := #[.int .i64 ((rd_T76 l1 x8_1).f0), .int .i64 ((rd_T76 l1 x8_1).f1), .int .i64 ((rd_T76 l1 x8_1).f2), .int .u64 ((rd_T76 l1 x8_1).f3), .int .u64 ((rd_T76 l1 x8_1).f4), .int .u64 ((rd_T76 l1 x8_1).f5), .int .u64 0]) ?_ 6 _ rfl; (with_reducible repeat (first | refine blk_drewN ?_ _ | refine blk_drew ?_ | refine blk_alloc ?_ _)); refine blk_put (cs := #[.int .i64 ((rd_T76 l1 x8_1).f0), .int .i64 ((rd_T76 l1 x8_1).f1), .int .i64 ((rd_T76 l1 x8_1).f2), .int .u64 ((rd_T76 l1 x8_1).f3), .int .u64 ((rd_T76 l1 x8_1).f4), .int .u64 0, .int .u64 0]) ?_ 5 _ rfl; (with_reducible repeat (first | refine blk_drewN ?_ _ | refine blk_drew ?_ | refine blk_alloc ?_ _)); refine blk_put (cs := #[.int .i64 ((rd_T76 l1 x8_1).f0), .int .i64 ((rd_T76 l1 x8_1).f1), .int .i64 ((rd_T76 l1 x8_1).f2), .int .u64 ((rd_T76 l1 x8_1).f3), .int .u64 0, .int .u64 0, .int .u64 0]) ?_ 4 _ rfl; (with_reducible repeat (first | refine blk_drewN ?_ _ | refine blk_drew ?_ | refine blk_alloc ?_ _)); refine blk_put (cs := #[.int .i64 ((rd_T76 l1 x8_1).f0), .int .i64 ((rd_T76 l1 x8_1).f1), .int .i64 ((rd_T76 l1 x8_1).f2), .int .u64 0, .int .u64 0, .int .u64 0, .int .u64 0]) ?_ 3 _ rfl; (with_reducible repeat (first | refine blk_drewN ?_ _ | refine blk_drew ?_ | refine blk_alloc ?_ _)); refine blk_put (cs := #[.int .i64 ((rd_T76 l1 x8_1).f0), .int .i64 ((rd_T76 l1 x8_1).f1), .int .i64 0, .int .u64 0, .int .u64 0, .int .u64 0, .int .u64 0]) ?_ 2 _ rfl; (with_reducible repeat (first | refine blk_drewN ?_ _ | refine blk_drew ?_ | refine blk_alloc ?_ _)); refine blk_put (cs := #[.int .i64 ((rd_T76 l1 x8_1).f0), .int .i64 0, .int .i64 0, .int .u64 0, .int .u64 0, .int .u64 0, .int .u64 0]) ?_ 1 _ rfl; (with_reducible repeat (first | refine blk_drewN ?_ _ | refine blk_drew ?_ | refine blk_alloc ?_ _)); refine blk_put (cs := #[.int .i64 0, .int .i64 0, .int .i64 0, .int .u64 0, .int .u64 0, .int .u64 0, .int .u64 0]) ?_ 0 _ rfl; (with_reducible repeat (first | refine blk_drewN ?_ _ | refine blk_drew ?_ | refine blk_alloc ?_ _)); exact BK121.out⟩, ⟨by repeat (first | (with_reducible first | exact HB.out | apply below_alloc | apply pw_below_drewN | apply below_drew1 | refine below_set ?_ GE121.out) | exact HB.out)⟩⟩
              · rw [if_neg c10] at H
                have c10b0 : decide (((rd_T76 l1 x8_1).f2) < 0) = false := decide_eq_false c10
                clear c10
                (first | rw [c10b0] | (simp only [i64_w, i32_w]; rw [c10b0]) | skip)
                have H' := Aside0.mk H
                clear H
                have hcz12_0 : w8.cell? ⟨gb121, 0, none⟩ = some (.int .i64 0) := (blk_cell BK121.out 0).trans rfl
                have hcz12_1 : w8.cell? ⟨gb121, 1, none⟩ = some (.int .i64 0) := (blk_cell BK121.out 1).trans rfl
                have hcz12_2 : w8.cell? ⟨gb121, 2, none⟩ = some (.int .i64 0) := (blk_cell BK121.out 2).trans rfl
                have hcz12_3 : w8.cell? ⟨gb121, 3, none⟩ = some (.int .u64 0) := (blk_cell BK121.out 3).trans rfl
                have hcz12_4 : w8.cell? ⟨gb121, 4, none⟩ = some (.int .u64 0) := (blk_cell BK121.out 4).trans rfl
                have hcz12_5 : w8.cell? ⟨gb121, 5, none⟩ = some (.int .u64 0) := (blk_cell BK121.out 5).trans rfl
                have hcz12_6 : w8.cell? ⟨gb121, 6, none⟩ = some (.int .u64 0) := (blk_cell BK121.out 6).trans rfl
                have hfz12_0 := blk_frozen BK121.out 0
                have hfz12_1 := blk_frozen BK121.out 1
                have hfz12_2 := blk_frozen BK121.out 2
                have hfz12_3 := blk_frozen BK121.out 3
                have hfz12_4 := blk_frozen BK121.out 4
                have hfz12_5 := blk_frozen BK121.out 5
                have hfz12_6 := blk_frozen BK121.out 6
                obtain ⟨Ao13, co13, eo13⟩ := Kd.R_slice HO_7.out
                subst eo13
                go_wp2
                repeat (go_quiet (fail); try go_wp2)
                go_meet
                case rel => exact ⟨_, (decide (((rd_T76 l1 x8_1).f2) ≥ (x7_1.length : Int))), (by first | rfl | (simp; done) | (simp [*]; done)), H', ⟨by have := HK1.out; first | omega | exact Nat.le_refl _⟩, ⟨by (with_reducible repeat (first | apply Kd.R_alloc | apply Kd.R_drewN | apply Kd.R_drew)); exact Kd.R_mono (Kd.R_far (p := ⟨gb121, 6, none⟩) (Kd.R_far (p := ⟨gb121, 5, none⟩) (Kd.R_far (p := ⟨gb121, 4, none⟩) (Kd.R_far (p := ⟨gb121, 3, none⟩) (Kd.R_far (p := ⟨gb121, 2, none⟩) (Kd.R_far (p := ⟨gb121, 1, none⟩) (Kd.R_far (p := ⟨gb121, 0, none⟩) (Kd.R_types HO_7.out BK121.out (by decide)) (fun _ hk => hk.2) (.int .i64 ((rd_T76 l1 x8_1).f0))) (fun _ hk => hk.2) (.int .i64 ((rd_T76 l1 x8_1).f1))) (fun _ hk => hk.2) (.int .i64 ((rd_T76 l1 x8_1).f2))) (fun _ hk => hk.2) (.int .u64 ((rd_T76 l1 x8_1).f3))) (fun _ hk => hk.2) (.int .u64 ((rd_T76 l1 x8_1).f4))) (fun _ hk => hk.2) (.int .u64 ((rd_T76 l1 x8_1).f5))) (fun _ hk => hk.2) (.int .u64 ((rd_T76 l1 x8_1).f6))) (fun _ hk => trivial)⟩, ⟨by (with_reducible repeat (first | refine blk_drewN ?_ _ | refine blk_drew ?_ | refine blk_alloc ?_ _)); refine blk_put (cs := #[.int .i64 ((rd_T76 l1 x8_1).f0), .int .i64 ((rd_T76 l1 x8_1).f1), .int .i64 ((rd_T76 l1 x8_1).f2), .int .u64 ((rd_T76 l1 x8_1).f3), .int .u64 ((rd_T76 l1 x8_1).f4), .int .u64 ((rd_T76 l1 x8_1).f5), .int .u64 0]) ?_ 6 _ rfl; (with_reducible repeat (first | refine blk_drewN ?_ _ | refine blk_drew ?_ | refine blk_alloc ?_ _)); refine blk_put (cs := #[.int .i64 ((rd_T76 l1 x8_1).f0), .int .i64 ((rd_T76 l1 x8_1).f1), .int .i64 ((rd_T76 l1 x8_1).f2), .int .u64 ((rd_T76 l1 x8_1).f3), .int .u64 ((rd_T76 l1 x8_1).f4), .int .u64 0, .int .u64 0]) ?_ 5 _ rfl; (with_reducible repeat (first | refine blk_drewN ?_ _ | refine blk_drew ?_ | refine blk_alloc ?_ _)); refine blk_put (cs := #[.int .i64 ((rd_T76 l1 x8_1).f0), .int .i64 ((rd_T76 l1 x8_1).f1), .int .i64 ((rd_T76 l1 x8_1).f2), .int .u64 ((rd_T76 l1 x8_1).f3), .int .u64 0, .int .u64 0, .int .u64 0]) ?_ 4 _ rfl; (with_reducible repeat (first | refine blk_drewN ?_ _ | refine blk_drew ?_ | refine blk_alloc ?_ _)); refine blk_put (cs := #[.int .i64 ((rd_T76 l1 x8_1).f0), .int .i64 ((rd_T76 l1 x8_1).f1), .int .i64 ((rd_T76 l1 x8_1).f2), .int .u64 0, .int .u64 0, .int .u64 0, .int .u64 0]) ?_ 3 _ rfl; (with_reducible repeat (first | refine blk_drewN ?_ _ | refine blk_drew ?_ | refine blk_alloc ?_ _)); refine blk_put (cs := #[.int .i64 ((rd_T76 l1 x8_1).f0), .int .i64 ((rd_T76 l1 x8_1).f1), .int .i64 0, .int .u64 0, .int .u64 0, .int .u64 0, .int .u64 0]) ?_ 2 _ rfl; (with_reducible repeat (first | refine blk_drewN ?_ _ | refine blk_drew ?_ | refine blk_alloc ?_ _)); refine blk_put (cs := #[.int .i64 ((rd_T76 l1 x8_1).f0), .int .i64 0, .int .i64 0, .int .u64 0, .int .u64 0, .int .u64 0, .int .u64 0]) ?_ 1 _ rfl; (with_reducible repeat (first | refine blk_drewN ?_ _ | refine blk_drew ?_ | refine blk_alloc ?_ _)); refine blk_put (cs := #[.int .i64 0, .int .i64 0, .int .i64 0, .int .u64 0, .int .u64 0, .int .u64 0, .int .u64 0]) ?_ 0 _ rfl; (with_reducible repeat (first | refine blk_drewN ?_ _ | refine blk_drew ?_ | refine blk_alloc ?_ _)); exact BK121.out⟩, ⟨by repeat (first | (with_reducible first | exact HB.out | apply below_alloc | apply pw_below_drewN | apply below_drew1 | refine below_set ?_ GE121.out) | exact HB.out)⟩⟩
            case rest =>
              clear HC7
              try clear c1
              try clear p1
              try clear q1
              try clear hx1
              try clear c2
              try clear p2
              try clear c3
              try clear c5
              try clear c5b0
              try clear c6
              try clear c6b0
              try clear c10
              try clear c10b0
              try clear p12
              try clear q12
              try clear hx12
              try clear hcz11_0
              try clear hcz11_1
              try clear hcz11_2
              try clear hcz11_3
              try clear hcz11_4
              try clear hcz11_5
              try clear hcz11_6
              try clear hcz12_0
              try clear hcz12_1
              try clear hcz12_2
              try clear hcz12_3
              try clear hcz12_4
              try clear hcz12_5
              try clear hcz12_6
              try clear hcz9_0
              try clear hcz9_1
              try clear hcz9_2
              try clear hcz9_3
              try clear hcz9_4
              try clear hcz9_5
              try clear hcz9_6
              try clear hfz11_0
              try clear hfz11_1
              try clear hfz11_2
              try clear hfz11_3
              try clear hfz11_4
              try clear hfz11_5
              try clear hfz11_6
              try clear hfz12_0
              try clear hfz12_1
              try clear hfz12_2
              try clear hfz12_3
              try clear hfz12_4
              try clear hfz12_5
              try clear hfz12_6
              try clear hfz9_0
              try clear hfz9_1
              try clear hfz9_2
              try clear hfz9_3
              try clear hfz9_4
              try clear hfz9_5
              try clear hfz9_6
              try clear hx120_0
              try clear hx120_1
              try clear hx120_2
              try clear hx120_3
              try clear hx120_4
              try clear hx120_5
              try clear hx120_6
              try clear p120
              try clear p2
              try clear q120
              obtain ⟨kq, x34_6, rfl, HA, HJ6, HO_7, BK121, HB⟩ := hcut
              cases kq with
              | zero => exact absurd HA.out (by simp [windrowref03_Replay.j1])
              | succ kj6 =>
                have H := HA.out
                clear HA
                simp only [windrowref03_Replay.j1] at H
                by_cases c14 : x34_6 = true
                · subst c14
                  have H1 : (some (([] : List Int), x8_1, 5)) = some (r1, r2, r3) := by rw [if_pos rfl] at H; exact H
                  clear H
                  have H := H1
                  clear H1
                  simp only [Option.some.injEq, Prod.mk.injEq] at H
                  obtain ⟨rfl, rfl, rfl⟩ := H
                  go_wp2
                  repeat (go_quiet (fail); try go_wp2)
                  go_ret3
                  exact ⟨_, by first | rfl | (simp [errW_none, errW_some] <;> rfl) | (simp [*, errW_none, errW_some] <;> rfl), by first | exact Kd.R_nil _ _ _ _ _ | exact Kd.N_nil _ _ _ _ _ | exact Kd.V_nil _ _ _ _ _ | exact Kd.Q_nil _ _ _ _ _ | exact Kd.S_nil _ _ _ _ _, by repeat (first | (with_reducible first | exact HB.out | apply below_alloc | apply pw_below_drewN | apply below_drew1 | refine below_set ?_ GE121.out) | exact HB.out)⟩
                · replace c14 := Bool.eq_false_iff.mpr c14
                  subst c14
                  have H1 : (if 0 ≤ ((rd_T76 l1 x8_1).f2) then (if ((rd_T76 l1 x8_1).f2) < (x7_1.length : Int) then ((windrowref03_Left.f kj6 ((rd_T76 l1 x8_1).f1) (rd x7_1 ((rd_T76 l1 x8_1).f2)) ((rd_T76 l1 x8_1).f3) ((rd_T76 l1 x8_1).f4)).bind fun bt123 => (if bt123.2 = true then (if ((rd_T76 l1 x8_1).f5) = (rd x7_1 ((rd_T76 l1 x8_1).f2)) then (if ((rd_T76 l1 x8_1).f6) = bt123.1 then (windrowref03_Replay.l0 kj6 l1 (x7_1.set (((rd_T76 l1 x8_1).f2) : Int).toNat bt123.1) (wrap64 (x8_1 + 1))) else (some (([] : List Int), x8_1, 4))) else (some (([] : List Int), x8_1, 4))) else (some (([] : List Int), x8_1, 4)))) else (none)) else (none)) = some (r1, r2, r3) := by rw [if_neg (show ¬ (false = true) by decide)] at H; exact H
                  clear H
                  have H := H1
                  clear H1
                  by_cases c15 : 0 ≤ ((rd_T76 l1 x8_1).f2)
                  · rw [if_pos c15] at H
                    have c15b0 : decide (0 ≤ ((rd_T76 l1 x8_1).f2)) = true := decide_eq_true c15
                    clear c15
                    by_cases c16 : ((rd_T76 l1 x8_1).f2) < (x7_1.length : Int)
                    · rw [if_pos c16] at H
                      have c16b0 : decide (((rd_T76 l1 x8_1).f2) < (x7_1.length : Int)) = true := decide_eq_true c16
                      clear c16
                      replace H := Option.bind_eq_some_iff.mp H
                      obtain ⟨⟨t123, t124⟩, A170, H⟩ := H
                      replace H : (if t124 = true then (if ((rd_T76 l1 x8_1).f5) = (rd x7_1 ((rd_T76 l1 x8_1).f2)) then (if ((rd_T76 l1 x8_1).f6) = t123 then (windrowref03_Replay.l0 kj6 l1 (x7_1.set (((rd_T76 l1 x8_1).f2) : Int).toNat t123) (wrap64 (x8_1 + 1))) else (some (([] : List Int), x8_1, 4))) else (some (([] : List Int), x8_1, 4))) else (some (([] : List Int), x8_1, 4))) = some (r1, r2, r3) := H
                      have A17 := Aside0.mk A170
                      clear A170
                      by_cases c18 : t124 = true
                      · subst c18
                        have H1 : (if ((rd_T76 l1 x8_1).f5) = (rd x7_1 ((rd_T76 l1 x8_1).f2)) then (if ((rd_T76 l1 x8_1).f6) = t123 then (windrowref03_Replay.l0 kj6 l1 (x7_1.set (((rd_T76 l1 x8_1).f2) : Int).toNat t123) (wrap64 (x8_1 + 1))) else (some (([] : List Int), x8_1, 4))) else (some (([] : List Int), x8_1, 4))) = some (r1, r2, r3) := by rw [if_pos rfl] at H; exact H
                        clear H
                        have H := H1
                        clear H1
                        by_cases c19 : ((rd_T76 l1 x8_1).f5) = (rd x7_1 ((rd_T76 l1 x8_1).f2))
                        · rw [if_pos c19] at H
                          have c19b0 : (((rd_T76 l1 x8_1).f5) == (rd x7_1 ((rd_T76 l1 x8_1).f2))) = true := beq_iff_eq.mpr c19
                          have c19b1 : (((rd_T76 l1 x8_1).f5) != (rd x7_1 ((rd_T76 l1 x8_1).f2))) = false := bne_eq_false_iff_eq.mpr c19
                          clear c19
                          by_cases c20 : ((rd_T76 l1 x8_1).f6) = t123
                          · rw [if_pos c20] at H
                            have c20b0 : (((rd_T76 l1 x8_1).f6) == t123) = true := beq_iff_eq.mpr c20
                            have c20b1 : (((rd_T76 l1 x8_1).f6) != t123) = false := bne_eq_false_iff_eq.mpr c20
                            clear c20
                            obtain ⟨y126, hy126⟩ : ∃ y_ : List Int, y_ = (x7_1.set (((rd_T76 l1 x8_1).f2) : Int).toNat t123) := ⟨_, rfl⟩
                            replace H : (windrowref03_Replay.l0 kj6 l1 y126 (wrap64 (x8_1 + 1))) = some (r1, r2, r3) := by first | (rw [hy126]; with_reducible exact H) | (have H2_ := (Option.bind_some _ _).symm.trans H; rw [hy126]; with_reducible exact H2_) | (have H2_ := (Option.bind_some _ _).symm.trans H; with_reducible exact H2_) | with_reducible exact H | (rw [hy126]; exact H) | exact H
                            have Ny126 := Aside0.mk hy126
                            clear hy126
                            have H' := Aside0.mk H
                            clear H
                            have hcz22_0 : wc.cell? ⟨gb121, 0, none⟩ = some (.int .i64 ((rd_T76 l1 x8_1).f0)) := (blk_cell BK121.out 0).trans rfl
                            have hcz22_1 : wc.cell? ⟨gb121, 1, none⟩ = some (.int .i64 ((rd_T76 l1 x8_1).f1)) := (blk_cell BK121.out 1).trans rfl
                            have hcz22_2 : wc.cell? ⟨gb121, 2, none⟩ = some (.int .i64 ((rd_T76 l1 x8_1).f2)) := (blk_cell BK121.out 2).trans rfl
                            have hcz22_3 : wc.cell? ⟨gb121, 3, none⟩ = some (.int .u64 ((rd_T76 l1 x8_1).f3)) := (blk_cell BK121.out 3).trans rfl
                            have hcz22_4 : wc.cell? ⟨gb121, 4, none⟩ = some (.int .u64 ((rd_T76 l1 x8_1).f4)) := (blk_cell BK121.out 4).trans rfl
                            have hcz22_5 : wc.cell? ⟨gb121, 5, none⟩ = some (.int .u64 ((rd_T76 l1 x8_1).f5)) := (blk_cell BK121.out 5).trans rfl
                            have hcz22_6 : wc.cell? ⟨gb121, 6, none⟩ = some (.int .u64 ((rd_T76 l1 x8_1).f6)) := (blk_cell BK121.out 6).trans rfl
                            have hfz22_0 := blk_frozen BK121.out 0
                            have hfz22_1 := blk_frozen BK121.out 1
                            have hfz22_2 := blk_frozen BK121.out 2
                            have hfz22_3 := blk_frozen BK121.out 3
                            have hfz22_4 := blk_frozen BK121.out 4
                            have hfz22_5 := blk_frozen BK121.out 5
                            have hfz22_6 := blk_frozen BK121.out 6
                            obtain ⟨Ao23, co23, eo23⟩ := Kd.R_slice HO_7.out
                            subst eo23
                            have p122 : 0 ≤ (((rd_T76 l1 x8_1).f2) : Int) := of_decide_eq_true (by first | (with_reducible assumption) | assumption)
                            have q122 : ((rd_T76 l1 x8_1).f2) < (x7_1.length : Int) := of_decide_eq_true (by first | (with_reducible assumption) | assumption)
                            obtain ⟨ad122, e122, hx122_0⟩ := Kd.at_int (Kd.R_reads' HO_7.out).2.2 ((rd_T76 l1 x8_1).f2) p122 q122
                            cases e122
                            replace p122 := eq_true p122
                            replace q122 := eq_true q122
                            go_wp2_with (first | (go_at_call 42; (with_reducible refine (windrowref03_Left.calls kj6 ((rd_T76 l1 x8_1).f1) (rd x7_1 ((rd_T76 l1 x8_1).f2)) ((rd_T76 l1 x8_1).f3) ((rd_T76 l1 x8_1).f4) t123 true _ A17.out).mono ?_); rintro e w' ⟨rfl, ⟨nd, rfl⟩⟩; (try first | exact ⟨rfl, _, World.drewN_drewN _ _ _⟩ | exact ⟨rfl, _, Eq.trans (World.drewN_drewN _ _ _) (congrArg (World.drewN _) (Nat.add_assoc _ _ _))⟩); have p125 : 0 ≤ (((rd_T76 l1 x8_1).f2) : Int) := of_decide_eq_true (by first | (with_reducible assumption) | assumption); have q125 : ((rd_T76 l1 x8_1).f2) < (x7_1.length : Int) := of_decide_eq_true (by first | (with_reducible assumption) | assumption); obtain ⟨ad125, e125, hx125_0⟩ := Kd.at_int (Kd.R_reads' HO_7.out).2.2 ((rd_T76 l1 x8_1).f2) p125 q125; obtain rfl : ad122 = ad125 := (by injection e125); replace p125 := eq_true p125; replace q125 := eq_true q125; have p21 : 0 ≤ (((rd_T76 l1 x8_1).f2) : Int) := of_decide_eq_true (by first | (with_reducible assumption) | assumption); have q21 : (((rd_T76 l1 x8_1).f2) : Int) < ((x7_1.length : Int) : Int) := of_decide_eq_true (by first | (with_reducible assumption) | assumption); obtain ⟨go21, co21, eo21, gb21, gl21, cl21, HG21⟩ := Kd.R_form HO_7.out (by omega); (first | cases eo21 | (injection eo21 with ea_ en_ ec_; (first | subst ea_ | (injection ea_ with ea_; subst ea_)); subst ec_; clear en_)); have GB21 := Aside0.mk gb21; have GG21 := Aside0.mk HG21; clear gb21 gl21 HG21; (first | simp only [add_plain] at hx122_0 | skip); (first | simp only [add_plain] at hx125_0 | skip); obtain ⟨hx21_0, hf21_0⟩ := Kd.R_celln 0 HO_7.out (((rd_T76 l1 x8_1).f2) : Int) p21 q21; replace p21 := eq_true p21; replace q21 := eq_true q21; obtain ⟨hy24_, hz24_⟩ := Kd.R_celln 0 HO_7.out (((rd_T76 l1 x8_1).f2) : Int) (of_decide_eq_true (by first | (with_reducible assumption) | assumption)) (of_decide_eq_true (by first | (with_reducible assumption) | assumption)); have HP24 := Kd.R_putg HO_7.out (((rd_T76 l1 x8_1).f2) : Int) t123) | ((with_reducible refine gate_store (t := 23) (p := 74) rfl ?_); (try (rw [drewN_self wc]; generalize hq_ : World.drewN wc _ = wc; have n0_ := Aside0.mk (Kd.R_at hq_ HO_7.out); have n1_ := Aside0.mk (blk_at hq_ BK121.out); have n2_ := Aside0.mk (below_at hq_ HB.out); clear hq_ HO_7 BK121 HB; have HO_7 := n0_; have BK121 := n1_; have HB := n2_; clear n0_ n1_ n2_; (try (obtain ⟨hy24_, hz24_⟩ := Kd.R_celln 0 HO_7.out (((rd_T76 l1 x8_1).f2) : Int) (of_decide_eq_true (by first | (with_reducible assumption) | assumption)) (of_decide_eq_true (by first | (with_reducible assumption) | assumption)))); (try (have HP24 := Kd.R_putg HO_7.out (((rd_T76 l1 x8_1).f2) : Int) t123)))); refine store_event (t := 23) (p := 74) (v := ?vo_w25) (w1 := (wc.setCell ⟨go21, (((rd_T76 l1 x8_1).f2) : Int).toNat, none⟩ (.int .u64 t123))) ?hg ?ho ?hn ?hr ?_; (case ho => rfl); (case hg => rfl); (case hn => rfl); (case hr => first | (go_simp; done) | (go_simp; rfl)); intro w25 hw; have hg : wc.grownBy w25 (some go21) := (by rw [hw]; exact HP24.2); have hp_ : Kd.R (Kd.int .u64) 23 w25 w.heap.size (fun _ => True) (.slice (some ⟨go21, 0, none⟩) x7_1.length co23) y126 := (by rw [hw, Ny126.out]; exact HP24.1); clear HP24; have n0_ := Aside0.mk (hp_); have n1_ := Aside0.mk (blk_grown (g := gb121) (o := .cells #[.int .i64 ((rd_T76 l1 x8_1).f0), .int .i64 ((rd_T76 l1 x8_1).f1), .int .i64 ((rd_T76 l1 x8_1).f2), .int .u64 ((rd_T76 l1 x8_1).f3), .int .u64 ((rd_T76 l1 x8_1).f4), .int .u64 ((rd_T76 l1 x8_1).f5), .int .u64 ((rd_T76 l1 x8_1).f6)] 76 (0, 0)) (by (with_reducible repeat (first | refine blk_drewN ?_ _ | refine blk_drew ?_ | refine blk_alloc ?_ _)); exact BK121.out) hg (Kd.R_ne HO_7.out BK121.out (by decide))); have n2_ := Aside0.mk ((by rw [hw]; exact below_set (HB.out) GB21.out : Below w.heap.size w w25)); clear HO_7; clear BK121; clear HB; have HO_7 := n0_; have BK121 := n1_; have HB := n2_; clear n0_ n1_ n2_; clear hg hw hp_))
                            repeat (go_quiet (first | (go_at_call 42; (with_reducible refine (windrowref03_Left.calls kj6 ((rd_T76 l1 x8_1).f1) (rd x7_1 ((rd_T76 l1 x8_1).f2)) ((rd_T76 l1 x8_1).f3) ((rd_T76 l1 x8_1).f4) t123 true _ A17.out).mono ?_); rintro e w' ⟨rfl, ⟨nd, rfl⟩⟩; (try first | exact ⟨rfl, _, World.drewN_drewN _ _ _⟩ | exact ⟨rfl, _, Eq.trans (World.drewN_drewN _ _ _) (congrArg (World.drewN _) (Nat.add_assoc _ _ _))⟩); have p125 : 0 ≤ (((rd_T76 l1 x8_1).f2) : Int) := of_decide_eq_true (by first | (with_reducible assumption) | assumption); have q125 : ((rd_T76 l1 x8_1).f2) < (x7_1.length : Int) := of_decide_eq_true (by first | (with_reducible assumption) | assumption); obtain ⟨ad125, e125, hx125_0⟩ := Kd.at_int (Kd.R_reads' HO_7.out).2.2 ((rd_T76 l1 x8_1).f2) p125 q125; obtain rfl : ad122 = ad125 := (by injection e125); replace p125 := eq_true p125; replace q125 := eq_true q125; have p21 : 0 ≤ (((rd_T76 l1 x8_1).f2) : Int) := of_decide_eq_true (by first | (with_reducible assumption) | assumption); have q21 : (((rd_T76 l1 x8_1).f2) : Int) < ((x7_1.length : Int) : Int) := of_decide_eq_true (by first | (with_reducible assumption) | assumption); obtain ⟨go21, co21, eo21, gb21, gl21, cl21, HG21⟩ := Kd.R_form HO_7.out (by omega); (first | cases eo21 | (injection eo21 with ea_ en_ ec_; (first | subst ea_ | (injection ea_ with ea_; subst ea_)); subst ec_; clear en_)); have GB21 := Aside0.mk gb21; have GG21 := Aside0.mk HG21; clear gb21 gl21 HG21; (first | simp only [add_plain] at hx122_0 | skip); (first | simp only [add_plain] at hx125_0 | skip); obtain ⟨hx21_0, hf21_0⟩ := Kd.R_celln 0 HO_7.out (((rd_T76 l1 x8_1).f2) : Int) p21 q21; replace p21 := eq_true p21; replace q21 := eq_true q21; obtain ⟨hy24_, hz24_⟩ := Kd.R_celln 0 HO_7.out (((rd_T76 l1 x8_1).f2) : Int) (of_decide_eq_true (by first | (with_reducible assumption) | assumption)) (of_decide_eq_true (by first | (with_reducible assumption) | assumption)); have HP24 := Kd.R_putg HO_7.out (((rd_T76 l1 x8_1).f2) : Int) t123) | ((with_reducible refine gate_store (t := 23) (p := 74) rfl ?_); (try (rw [drewN_self wc]; generalize hq_ : World.drewN wc _ = wc; have n0_ := Aside0.mk (Kd.R_at hq_ HO_7.out); have n1_ := Aside0.mk (blk_at hq_ BK121.out); have n2_ := Aside0.mk (below_at hq_ HB.out); clear hq_ HO_7 BK121 HB; have HO_7 := n0_; have BK121 := n1_; have HB := n2_; clear n0_ n1_ n2_; (try (obtain ⟨hy24_, hz24_⟩ := Kd.R_celln 0 HO_7.out (((rd_T76 l1 x8_1).f2) : Int) (of_decide_eq_true (by first | (with_reducible assumption) | assumption)) (of_decide_eq_true (by first | (with_reducible assumption) | assumption)))); (try (have HP24 := Kd.R_putg HO_7.out (((rd_T76 l1 x8_1).f2) : Int) t123)))); refine store_event (t := 23) (p := 74) (v := ?vo_w25) (w1 := (wc.setCell ⟨go21, (((rd_T76 l1 x8_1).f2) : Int).toNat, none⟩ (.int .u64 t123))) ?hg ?ho ?hn ?hr ?_; (case ho => rfl); (case hg => rfl); (case hn => rfl); (case hr => first | (go_simp; done) | (go_simp; rfl)); intro w25 hw; have hg : wc.grownBy w25 (some go21) := (by rw [hw]; exact HP24.2); have hp_ : Kd.R (Kd.int .u64) 23 w25 w.heap.size (fun _ => True) (.slice (some ⟨go21, 0, none⟩) x7_1.length co23) y126 := (by rw [hw, Ny126.out]; exact HP24.1); clear HP24; have n0_ := Aside0.mk (hp_); have n1_ := Aside0.mk (blk_grown (g := gb121) (o := .cells #[.int .i64 ((rd_T76 l1 x8_1).f0), .int .i64 ((rd_T76 l1 x8_1).f1), .int .i64 ((rd_T76 l1 x8_1).f2), .int .u64 ((rd_T76 l1 x8_1).f3), .int .u64 ((rd_T76 l1 x8_1).f4), .int .u64 ((rd_T76 l1 x8_1).f5), .int .u64 ((rd_T76 l1 x8_1).f6)] 76 (0, 0)) (by (with_reducible repeat (first | refine blk_drewN ?_ _ | refine blk_drew ?_ | refine blk_alloc ?_ _)); exact BK121.out) hg (Kd.R_ne HO_7.out BK121.out (by decide))); have n2_ := Aside0.mk ((by rw [hw]; exact below_set (HB.out) GB21.out : Below w.heap.size w w25)); clear HO_7; clear BK121; clear HB; have HO_7 := n0_; have BK121 := n1_; have HB := n2_; clear n0_ n1_ n2_; clear hg hw hp_)); try go_wp2_with (first | (go_at_call 42; (with_reducible refine (windrowref03_Left.calls kj6 ((rd_T76 l1 x8_1).f1) (rd x7_1 ((rd_T76 l1 x8_1).f2)) ((rd_T76 l1 x8_1).f3) ((rd_T76 l1 x8_1).f4) t123 true _ A17.out).mono ?_); rintro e w' ⟨rfl, ⟨nd, rfl⟩⟩; (try first | exact ⟨rfl, _, World.drewN_drewN _ _ _⟩ | exact ⟨rfl, _, Eq.trans (World.drewN_drewN _ _ _) (congrArg (World.drewN _) (Nat.add_assoc _ _ _))⟩); have p125 : 0 ≤ (((rd_T76 l1 x8_1).f2) : Int) := of_decide_eq_true (by first | (with_reducible assumption) | assumption); have q125 : ((rd_T76 l1 x8_1).f2) < (x7_1.length : Int) := of_decide_eq_true (by first | (with_reducible assumption) | assumption); obtain ⟨ad125, e125, hx125_0⟩ := Kd.at_int (Kd.R_reads' HO_7.out).2.2 ((rd_T76 l1 x8_1).f2) p125 q125; obtain rfl : ad122 = ad125 := (by injection e125); replace p125 := eq_true p125; replace q125 := eq_true q125; have p21 : 0 ≤ (((rd_T76 l1 x8_1).f2) : Int) := of_decide_eq_true (by first | (with_reducible assumption) | assumption); have q21 : (((rd_T76 l1 x8_1).f2) : Int) < ((x7_1.length : Int) : Int) := of_decide_eq_true (by first | (with_reducible assumption) | assumption); obtain ⟨go21, co21, eo21, gb21, gl21, cl21, HG21⟩ := Kd.R_form HO_7.out (by omega); (first | cases eo21 | (injection eo21 with ea_ en_ ec_; (first | subst ea_ | (injection ea_ with ea_; subst ea_)); subst ec_; clear en_)); have GB21 := Aside0.mk gb21; have GG21 := Aside0.mk HG21; clear gb21 gl21 HG21; (first | simp only [add_plain] at hx122_0 | skip); (first | simp only [add_plain] at hx125_0 | skip); obtain ⟨hx21_0, hf21_0⟩ := Kd.R_celln 0 HO_7.out (((rd_T76 l1 x8_1).f2) : Int) p21 q21; replace p21 := eq_true p21; replace q21 := eq_true q21; obtain ⟨hy24_, hz24_⟩ := Kd.R_celln 0 HO_7.out (((rd_T76 l1 x8_1).f2) : Int) (of_decide_eq_true (by first | (with_reducible assumption) | assumption)) (of_decide_eq_true (by first | (with_reducible assumption) | assumption)); have HP24 := Kd.R_putg HO_7.out (((rd_T76 l1 x8_1).f2) : Int) t123) | ((with_reducible refine gate_store (t := 23) (p := 74) rfl ?_); (try (rw [drewN_self wc]; generalize hq_ : World.drewN wc _ = wc; have n0_ := Aside0.mk (Kd.R_at hq_ HO_7.out); have n1_ := Aside0.mk (blk_at hq_ BK121.out); have n2_ := Aside0.mk (below_at hq_ HB.out); clear hq_ HO_7 BK121 HB; have HO_7 := n0_; have BK121 := n1_; have HB := n2_; clear n0_ n1_ n2_; (try (obtain ⟨hy24_, hz24_⟩ := Kd.R_celln 0 HO_7.out (((rd_T76 l1 x8_1).f2) : Int) (of_decide_eq_true (by first | (with_reducible assumption) | assumption)) (of_decide_eq_true (by first | (with_reducible assumption) | assumption)))); (try (have HP24 := Kd.R_putg HO_7.out (((rd_T76 l1 x8_1).f2) : Int) t123)))); refine store_event (t := 23) (p := 74) (v := ?vo_w25) (w1 := (wc.setCell ⟨go21, (((rd_T76 l1 x8_1).f2) : Int).toNat, none⟩ (.int .u64 t123))) ?hg ?ho ?hn ?hr ?_; (case ho => rfl); (case hg => rfl); (case hn => rfl); (case hr => first | (go_simp; done) | (go_simp; rfl)); intro w25 hw; have hg : wc.grownBy w25 (some go21) := (by rw [hw]; exact HP24.2); have hp_ : Kd.R (Kd.int .u64) 23 w25 w.heap.size (fun _ => True) (.slice (some ⟨go21, 0, none⟩) x7_1.length co23) y126 := (by rw [hw, Ny126.out]; exact HP24.1); clear HP24; have n0_ := Aside0.mk (hp_); have n1_ := Aside0.mk (blk_grown (g := gb121) (o := .cells #[.int .i64 ((rd_T76 l1 x8_1).f0), .int .i64 ((rd_T76 l1 x8_1).f1), .int .i64 ((rd_T76 l1 x8_1).f2), .int .u64 ((rd_T76 l1 x8_1).f3), .int .u64 ((rd_T76 l1 x8_1).f4), .int .u64 ((rd_T76 l1 x8_1).f5), .int .u64 ((rd_T76 l1 x8_1).f6)] 76 (0, 0)) (by (with_reducible repeat (first | refine blk_drewN ?_ _ | refine blk_drew ?_ | refine blk_alloc ?_ _)); exact BK121.out) hg (Kd.R_ne HO_7.out BK121.out (by decide))); have n2_ := Aside0.mk ((by rw [hw]; exact below_set (HB.out) GB21.out : Below w.heap.size w w25)); clear HO_7; clear BK121; clear HB; have HO_7 := n0_; have BK121 := n1_; have HB := n2_; clear n0_ n1_ n2_; clear hg hw hp_)))
                            go_roundg kj6
                            case measure => have := HK1.out; have := HJ6.out; omega
                            case rel => exact ⟨(y126), (wrap64 (x8_1 + 1)), (by first | rfl | (simp; done) | (simp [*]; done)), H', ⟨by have := HK1.out; have := HJ6.out; omega⟩, ⟨by (with_reducible repeat (first | apply Kd.R_alloc | apply Kd.R_drewN | apply Kd.R_drew)); exact HO_7.out⟩, ⟨by repeat (first | (with_reducible first | exact HB.out | apply below_alloc | apply pw_below_drewN | apply below_drew1 | refine below_set ?_ GE121.out) | exact HB.out)⟩⟩
                          · rw [if_neg c20] at H
                            have c20b0 : (((rd_T76 l1 x8_1).f6) == t123) = false := beq_eq_false_iff_ne.mpr c20
                            have c20b1 : (((rd_T76 l1 x8_1).f6) != t123) = true := bne_iff_ne.mpr c20
                            simp only [Option.some.injEq, Prod.mk.injEq] at H
                            obtain ⟨rfl, rfl, rfl⟩ := H
                            have hcz26_0 : wc.cell? ⟨gb121, 0, none⟩ = some (.int .i64 ((rd_T76 l1 x8_1).f0)) := (blk_cell BK121.out 0).trans rfl
                            have hcz26_1 : wc.cell? ⟨gb121, 1, none⟩ = some (.int .i64 ((rd_T76 l1 x8_1).f1)) := (blk_cell BK121.out 1).trans rfl
                            have hcz26_2 : wc.cell? ⟨gb121, 2, none⟩ = some (.int .i64 ((rd_T76 l1 x8_1).f2)) := (blk_cell BK121.out 2).trans rfl
                            have hcz26_3 : wc.cell? ⟨gb121, 3, none⟩ = some (.int .u64 ((rd_T76 l1 x8_1).f3)) := (blk_cell BK121.out 3).trans rfl
                            have hcz26_4 : wc.cell? ⟨gb121, 4, none⟩ = some (.int .u64 ((rd_T76 l1 x8_1).f4)) := (blk_cell BK121.out 4).trans rfl
                            have hcz26_5 : wc.cell? ⟨gb121, 5, none⟩ = some (.int .u64 ((rd_T76 l1 x8_1).f5)) := (blk_cell BK121.out 5).trans rfl
                            have hcz26_6 : wc.cell? ⟨gb121, 6, none⟩ = some (.int .u64 ((rd_T76 l1 x8_1).f6)) := (blk_cell BK121.out 6).trans rfl
                            have hfz26_0 := blk_frozen BK121.out 0
                            have hfz26_1 := blk_frozen BK121.out 1
                            have hfz26_2 := blk_frozen BK121.out 2
                            have hfz26_3 := blk_frozen BK121.out 3
                            have hfz26_4 := blk_frozen BK121.out 4
                            have hfz26_5 := blk_frozen BK121.out 5
                            have hfz26_6 := blk_frozen BK121.out 6
                            obtain ⟨Ao27, co27, eo27⟩ := Kd.R_slice HO_7.out
                            subst eo27
                            have p122 : 0 ≤ (((rd_T76 l1 x8_1).f2) : Int) := of_decide_eq_true (by first | (with_reducible assumption) | assumption)
                            have q122 : ((rd_T76 l1 x8_1).f2) < (x7_1.length : Int) := of_decide_eq_true (by first | (with_reducible assumption) | assumption)
                            obtain ⟨ad122, e122, hx122_0⟩ := Kd.at_int (Kd.R_reads' HO_7.out).2.2 ((rd_T76 l1 x8_1).f2) p122 q122
                            cases e122
                            replace p122 := eq_true p122
                            replace q122 := eq_true q122
                            go_wp2_with (first | (go_at_call 42; (with_reducible refine (windrowref03_Left.calls kj6 ((rd_T76 l1 x8_1).f1) (rd x7_1 ((rd_T76 l1 x8_1).f2)) ((rd_T76 l1 x8_1).f3) ((rd_T76 l1 x8_1).f4) t123 true _ A17.out).mono ?_); rintro e w' ⟨rfl, ⟨nd, rfl⟩⟩; (try first | exact ⟨rfl, _, World.drewN_drewN _ _ _⟩ | exact ⟨rfl, _, Eq.trans (World.drewN_drewN _ _ _) (congrArg (World.drewN _) (Nat.add_assoc _ _ _))⟩); have p125 : 0 ≤ (((rd_T76 l1 x8_1).f2) : Int) := of_decide_eq_true (by first | (with_reducible assumption) | assumption); have q125 : ((rd_T76 l1 x8_1).f2) < (x7_1.length : Int) := of_decide_eq_true (by first | (with_reducible assumption) | assumption); obtain ⟨ad125, e125, hx125_0⟩ := Kd.at_int (Kd.R_reads' HO_7.out).2.2 ((rd_T76 l1 x8_1).f2) p125 q125; obtain rfl : ad122 = ad125 := (by injection e125); replace p125 := eq_true p125; replace q125 := eq_true q125))
                            repeat (go_quiet (first | (go_at_call 42; (with_reducible refine (windrowref03_Left.calls kj6 ((rd_T76 l1 x8_1).f1) (rd x7_1 ((rd_T76 l1 x8_1).f2)) ((rd_T76 l1 x8_1).f3) ((rd_T76 l1 x8_1).f4) t123 true _ A17.out).mono ?_); rintro e w' ⟨rfl, ⟨nd, rfl⟩⟩; (try first | exact ⟨rfl, _, World.drewN_drewN _ _ _⟩ | exact ⟨rfl, _, Eq.trans (World.drewN_drewN _ _ _) (congrArg (World.drewN _) (Nat.add_assoc _ _ _))⟩); have p125 : 0 ≤ (((rd_T76 l1 x8_1).f2) : Int) := of_decide_eq_true (by first | (with_reducible assumption) | assumption); have q125 : ((rd_T76 l1 x8_1).f2) < (x7_1.length : Int) := of_decide_eq_true (by first | (with_reducible assumption) | assumption); obtain ⟨ad125, e125, hx125_0⟩ := Kd.at_int (Kd.R_reads' HO_7.out).2.2 ((rd_T76 l1 x8_1).f2) p125 q125; obtain rfl : ad122 = ad125 := (by injection e125); replace p125 := eq_true p125; replace q125 := eq_true q125)); try go_wp2_with (first | (go_at_call 42; (with_reducible refine (windrowref03_Left.calls kj6 ((rd_T76 l1 x8_1).f1) (rd x7_1 ((rd_T76 l1 x8_1).f2)) ((rd_T76 l1 x8_1).f3) ((rd_T76 l1 x8_1).f4) t123 true _ A17.out).mono ?_); rintro e w' ⟨rfl, ⟨nd, rfl⟩⟩; (try first | exact ⟨rfl, _, World.drewN_drewN _ _ _⟩ | exact ⟨rfl, _, Eq.trans (World.drewN_drewN _ _ _) (congrArg (World.drewN _) (Nat.add_assoc _ _ _))⟩); have p125 : 0 ≤ (((rd_T76 l1 x8_1).f2) : Int) := of_decide_eq_true (by first | (with_reducible assumption) | assumption); have q125 : ((rd_T76 l1 x8_1).f2) < (x7_1.length : Int) := of_decide_eq_true (by first | (with_reducible assumption) | assumption); obtain ⟨ad125, e125, hx125_0⟩ := Kd.at_int (Kd.R_reads' HO_7.out).2.2 ((rd_T76 l1 x8_1).f2) p125 q125; obtain rfl : ad122 = ad125 := (by injection e125); replace p125 := eq_true p125; replace q125 := eq_true q125)))
                            go_ret3
                            exact ⟨_, by first | rfl | (simp [errW_none, errW_some] <;> rfl) | (simp [*, errW_none, errW_some] <;> rfl), by first | exact Kd.R_nil _ _ _ _ _ | exact Kd.N_nil _ _ _ _ _ | exact Kd.V_nil _ _ _ _ _ | exact Kd.Q_nil _ _ _ _ _ | exact Kd.S_nil _ _ _ _ _, by repeat (first | (with_reducible first | exact HB.out | apply below_alloc | apply pw_below_drewN | apply below_drew1 | refine below_set ?_ GE121.out) | exact HB.out)⟩
                        · rw [if_neg c19] at H
                          have c19b0 : (((rd_T76 l1 x8_1).f5) == (rd x7_1 ((rd_T76 l1 x8_1).f2))) = false := beq_eq_false_iff_ne.mpr c19
                          have c19b1 : (((rd_T76 l1 x8_1).f5) != (rd x7_1 ((rd_T76 l1 x8_1).f2))) = true := bne_iff_ne.mpr c19
                          simp only [Option.some.injEq, Prod.mk.injEq] at H
                          obtain ⟨rfl, rfl, rfl⟩ := H
                          have hcz28_0 : wc.cell? ⟨gb121, 0, none⟩ = some (.int .i64 ((rd_T76 l1 x8_1).f0)) := (blk_cell BK121.out 0).trans rfl
                          have hcz28_1 : wc.cell? ⟨gb121, 1, none⟩ = some (.int .i64 ((rd_T76 l1 x8_1).f1)) := (blk_cell BK121.out 1).trans rfl
                          have hcz28_2 : wc.cell? ⟨gb121, 2, none⟩ = some (.int .i64 ((rd_T76 l1 x8_1).f2)) := (blk_cell BK121.out 2).trans rfl
                          have hcz28_3 : wc.cell? ⟨gb121, 3, none⟩ = some (.int .u64 ((rd_T76 l1 x8_1).f3)) := (blk_cell BK121.out 3).trans rfl
                          have hcz28_4 : wc.cell? ⟨gb121, 4, none⟩ = some (.int .u64 ((rd_T76 l1 x8_1).f4)) := (blk_cell BK121.out 4).trans rfl
                          have hcz28_5 : wc.cell? ⟨gb121, 5, none⟩ = some (.int .u64 ((rd_T76 l1 x8_1).f5)) := (blk_cell BK121.out 5).trans rfl
                          have hcz28_6 : wc.cell? ⟨gb121, 6, none⟩ = some (.int .u64 ((rd_T76 l1 x8_1).f6)) := (blk_cell BK121.out 6).trans rfl
                          have hfz28_0 := blk_frozen BK121.out 0
                          have hfz28_1 := blk_frozen BK121.out 1
                          have hfz28_2 := blk_frozen BK121.out 2
                          have hfz28_3 := blk_frozen BK121.out 3
                          have hfz28_4 := blk_frozen BK121.out 4
                          have hfz28_5 := blk_frozen BK121.out 5
                          have hfz28_6 := blk_frozen BK121.out 6
                          obtain ⟨Ao29, co29, eo29⟩ := Kd.R_slice HO_7.out
                          subst eo29
                          have p122 : 0 ≤ (((rd_T76 l1 x8_1).f2) : Int) := of_decide_eq_true (by first | (with_reducible assumption) | assumption)
                          have q122 : ((rd_T76 l1 x8_1).f2) < (x7_1.length : Int) := of_decide_eq_true (by first | (with_reducible assumption) | assumption)
                          obtain ⟨ad122, e122, hx122_0⟩ := Kd.at_int (Kd.R_reads' HO_7.out).2.2 ((rd_T76 l1 x8_1).f2) p122 q122
                          cases e122
                          replace p122 := eq_true p122
                          replace q122 := eq_true q122
                          go_wp2_with (first | (go_at_call 42; (with_reducible refine (windrowref03_Left.calls kj6 ((rd_T76 l1 x8_1).f1) (rd x7_1 ((rd_T76 l1 x8_1).f2)) ((rd_T76 l1 x8_1).f3) ((rd_T76 l1 x8_1).f4) t123 true _ A17.out).mono ?_); rintro e w' ⟨rfl, ⟨nd, rfl⟩⟩; (try first | exact ⟨rfl, _, World.drewN_drewN _ _ _⟩ | exact ⟨rfl, _, Eq.trans (World.drewN_drewN _ _ _) (congrArg (World.drewN _) (Nat.add_assoc _ _ _))⟩); have p125 : 0 ≤ (((rd_T76 l1 x8_1).f2) : Int) := of_decide_eq_true (by first | (with_reducible assumption) | assumption); have q125 : ((rd_T76 l1 x8_1).f2) < (x7_1.length : Int) := of_decide_eq_true (by first | (with_reducible assumption) | assumption); obtain ⟨ad125, e125, hx125_0⟩ := Kd.at_int (Kd.R_reads' HO_7.out).2.2 ((rd_T76 l1 x8_1).f2) p125 q125; obtain rfl : ad122 = ad125 := (by injection e125); replace p125 := eq_true p125; replace q125 := eq_true q125))
                          repeat (go_quiet (first | (go_at_call 42; (with_reducible refine (windrowref03_Left.calls kj6 ((rd_T76 l1 x8_1).f1) (rd x7_1 ((rd_T76 l1 x8_1).f2)) ((rd_T76 l1 x8_1).f3) ((rd_T76 l1 x8_1).f4) t123 true _ A17.out).mono ?_); rintro e w' ⟨rfl, ⟨nd, rfl⟩⟩; (try first | exact ⟨rfl, _, World.drewN_drewN _ _ _⟩ | exact ⟨rfl, _, Eq.trans (World.drewN_drewN _ _ _) (congrArg (World.drewN _) (Nat.add_assoc _ _ _))⟩); have p125 : 0 ≤ (((rd_T76 l1 x8_1).f2) : Int) := of_decide_eq_true (by first | (with_reducible assumption) | assumption); have q125 : ((rd_T76 l1 x8_1).f2) < (x7_1.length : Int) := of_decide_eq_true (by first | (with_reducible assumption) | assumption); obtain ⟨ad125, e125, hx125_0⟩ := Kd.at_int (Kd.R_reads' HO_7.out).2.2 ((rd_T76 l1 x8_1).f2) p125 q125; obtain rfl : ad122 = ad125 := (by injection e125); replace p125 := eq_true p125; replace q125 := eq_true q125)); try go_wp2_with (first | (go_at_call 42; (with_reducible refine (windrowref03_Left.calls kj6 ((rd_T76 l1 x8_1).f1) (rd x7_1 ((rd_T76 l1 x8_1).f2)) ((rd_T76 l1 x8_1).f3) ((rd_T76 l1 x8_1).f4) t123 true _ A17.out).mono ?_); rintro e w' ⟨rfl, ⟨nd, rfl⟩⟩; (try first | exact ⟨rfl, _, World.drewN_drewN _ _ _⟩ | exact ⟨rfl, _, Eq.trans (World.drewN_drewN _ _ _) (congrArg (World.drewN _) (Nat.add_assoc _ _ _))⟩); have p125 : 0 ≤ (((rd_T76 l1 x8_1).f2) : Int) := of_decide_eq_true (by first | (with_reducible assumption) | assumption); have q125 : ((rd_T76 l1 x8_1).f2) < (x7_1.length : Int) := of_decide_eq_true (by first | (with_reducible assumption) | assumption); obtain ⟨ad125, e125, hx125_0⟩ := Kd.at_int (Kd.R_reads' HO_7.out).2.2 ((rd_T76 l1 x8_1).f2) p125 q125; obtain rfl : ad122 = ad125 := (by injection e125); replace p125 := eq_true p125; replace q125 := eq_true q125)))
                          go_ret3
                          exact ⟨_, by first | rfl | (simp [errW_none, errW_some] <;> rfl) | (simp [*, errW_none, errW_some] <;> rfl), by first | exact Kd.R_nil _ _ _ _ _ | exact Kd.N_nil _ _ _ _ _ | exact Kd.V_nil _ _ _ _ _ | exact Kd.Q_nil _ _ _ _ _ | exact Kd.S_nil _ _ _ _ _, by repeat (first | (with_reducible first | exact HB.out | apply below_alloc | apply pw_below_drewN | apply below_drew1 | refine below_set ?_ GE121.out) | exact HB.out)⟩
                      · replace c18 := Bool.eq_false_iff.mpr c18
                        subst c18
                        have H1 : (some (([] : List Int), x8_1, 4)) = some (r1, r2, r3) := by rw [if_neg (show ¬ (false = true) by decide)] at H; exact H
                        clear H
                        have H := H1
                        clear H1
                        simp only [Option.some.injEq, Prod.mk.injEq] at H
                        obtain ⟨rfl, rfl, rfl⟩ := H
                        have hcz30_0 : wc.cell? ⟨gb121, 0, none⟩ = some (.int .i64 ((rd_T76 l1 x8_1).f0)) := (blk_cell BK121.out 0).trans rfl
                        have hcz30_1 : wc.cell? ⟨gb121, 1, none⟩ = some (.int .i64 ((rd_T76 l1 x8_1).f1)) := (blk_cell BK121.out 1).trans rfl
                        have hcz30_2 : wc.cell? ⟨gb121, 2, none⟩ = some (.int .i64 ((rd_T76 l1 x8_1).f2)) := (blk_cell BK121.out 2).trans rfl
                        have hcz30_3 : wc.cell? ⟨gb121, 3, none⟩ = some (.int .u64 ((rd_T76 l1 x8_1).f3)) := (blk_cell BK121.out 3).trans rfl
                        have hcz30_4 : wc.cell? ⟨gb121, 4, none⟩ = some (.int .u64 ((rd_T76 l1 x8_1).f4)) := (blk_cell BK121.out 4).trans rfl
                        have hcz30_5 : wc.cell? ⟨gb121, 5, none⟩ = some (.int .u64 ((rd_T76 l1 x8_1).f5)) := (blk_cell BK121.out 5).trans rfl
                        have hcz30_6 : wc.cell? ⟨gb121, 6, none⟩ = some (.int .u64 ((rd_T76 l1 x8_1).f6)) := (blk_cell BK121.out 6).trans rfl
                        have hfz30_0 := blk_frozen BK121.out 0
                        have hfz30_1 := blk_frozen BK121.out 1
                        have hfz30_2 := blk_frozen BK121.out 2
                        have hfz30_3 := blk_frozen BK121.out 3
                        have hfz30_4 := blk_frozen BK121.out 4
                        have hfz30_5 := blk_frozen BK121.out 5
                        have hfz30_6 := blk_frozen BK121.out 6
                        obtain ⟨Ao31, co31, eo31⟩ := Kd.R_slice HO_7.out
                        subst eo31
                        have p122 : 0 ≤ (((rd_T76 l1 x8_1).f2) : Int) := of_decide_eq_true (by first | (with_reducible assumption) | assumption)
                        have q122 : ((rd_T76 l1 x8_1).f2) < (x7_1.length : Int) := of_decide_eq_true (by first | (with_reducible assumption) | assumption)
                        obtain ⟨ad122, e122, hx122_0⟩ := Kd.at_int (Kd.R_reads' HO_7.out).2.2 ((rd_T76 l1 x8_1).f2) p122 q122
                        cases e122
                        replace p122 := eq_true p122
                        replace q122 := eq_true q122
                        go_wp2_with (first | (go_at_call 42; (with_reducible refine (windrowref03_Left.calls kj6 ((rd_T76 l1 x8_1).f1) (rd x7_1 ((rd_T76 l1 x8_1).f2)) ((rd_T76 l1 x8_1).f3) ((rd_T76 l1 x8_1).f4) t123 false _ A17.out).mono ?_); rintro e w' ⟨rfl, ⟨nd, rfl⟩⟩; (try first | exact ⟨rfl, _, World.drewN_drewN _ _ _⟩ | exact ⟨rfl, _, Eq.trans (World.drewN_drewN _ _ _) (congrArg (World.drewN _) (Nat.add_assoc _ _ _))⟩)))
                        repeat (go_quiet (first | (go_at_call 42; (with_reducible refine (windrowref03_Left.calls kj6 ((rd_T76 l1 x8_1).f1) (rd x7_1 ((rd_T76 l1 x8_1).f2)) ((rd_T76 l1 x8_1).f3) ((rd_T76 l1 x8_1).f4) t123 false _ A17.out).mono ?_); rintro e w' ⟨rfl, ⟨nd, rfl⟩⟩; (try first | exact ⟨rfl, _, World.drewN_drewN _ _ _⟩ | exact ⟨rfl, _, Eq.trans (World.drewN_drewN _ _ _) (congrArg (World.drewN _) (Nat.add_assoc _ _ _))⟩))); try go_wp2_with (first | (go_at_call 42; (with_reducible refine (windrowref03_Left.calls kj6 ((rd_T76 l1 x8_1).f1) (rd x7_1 ((rd_T76 l1 x8_1).f2)) ((rd_T76 l1 x8_1).f3) ((rd_T76 l1 x8_1).f4) t123 false _ A17.out).mono ?_); rintro e w' ⟨rfl, ⟨nd, rfl⟩⟩; (try first | exact ⟨rfl, _, World.drewN_drewN _ _ _⟩ | exact ⟨rfl, _, Eq.trans (World.drewN_drewN _ _ _) (congrArg (World.drewN _) (Nat.add_assoc _ _ _))⟩))))
                        go_ret3
                        exact ⟨_, by first | rfl | (simp [errW_none, errW_some] <;> rfl) | (simp [*, errW_none, errW_some] <;> rfl), by first | exact Kd.R_nil _ _ _ _ _ | exact Kd.N_nil _ _ _ _ _ | exact Kd.V_nil _ _ _ _ _ | exact Kd.Q_nil _ _ _ _ _ | exact Kd.S_nil _ _ _ _ _, by repeat (first | (with_reducible first | exact HB.out | apply below_alloc | apply pw_below_drewN | apply below_drew1 | refine below_set ?_ GE121.out) | exact HB.out)⟩
                    · rw [if_neg c16] at H
                      exact absurd H (by simp)
                  · rw [if_neg c15] at H
                    exact absurd H (by simp)
          · rw [if_neg c6] at H
            exact absurd H (by simp)
        · rw [if_neg c5] at H
          have c5b0 : decide (x8_1 < (l1.length : Int)) = false := decide_eq_false c5
          clear c5
          simp only [Option.some.injEq, Prod.mk.injEq] at H
          obtain ⟨rfl, rfl, rfl⟩ := H
          go_wp2
          repeat (go_quiet (fail); try go_wp2)
          go_ret3
          exact ⟨_, by first | rfl | (simp [errW_none, errW_some] <;> rfl) | (simp [*, errW_none, errW_some] <;> rfl), by (with_reducible repeat (first | apply Kd.R_alloc | apply Kd.R_drewN | apply Kd.R_drew)); exact HO_7.out, by repeat (first | (with_reducible first | exact HB.out | apply below_alloc | apply pw_below_drewN | apply below_drew1) | exact HB.out)⟩
  · rw [if_neg c3] at H
    exact absurd H (by simp)

end Go.Proofs.Ytneppenmhbjfkaa.PAll

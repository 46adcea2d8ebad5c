-- Written by a program of the prover's (mp.py). Not trusted: Lean checks it.
import Derived.Test.YtahmhhbpdgopjaaDoorPAllx0
import Derived.Test.YtahmhhbpdgopjaaDoorPAllx1
import Derived.Test.YtahmhhbpdgopjaaDoorPAllx5
import Derived.Test.YtahmhhbpdgopjaaDoorPAllx6
namespace Go.Proofs.YtahmhhbpdgopjaaDoor.PAll
open Go.RowKit Go.Proofs.YtahmhhbpdgopjaaDoorW.PrintWords Go.Proofs.YtahmhhbpdgopjaaDoorW.PrintLast Go.Proofs.YtahmhhbpdgopjaaDoorW.PrintMore
attribute [local go_sem] max2_int min2_int max_two min_two max_three min_three max_four min_four   -- for this text's walks alone
set_option linter.unusedVariables false
set_option linter.unusedSimpArgs false

/-! ### windrowlaw01_WordCounts: function 13 -/
def windrowlaw01_WordCounts.j0 : Nat → Int → Int → List Int → Int → Int → Option (Bool)
  | 0, _, _, _, _, _ => none
  | k + 1, x0, x1, x5, x6, x7 => (windrowlaw01_worded.f k).bind fun t248 => (if t248 = true then ((word_Ones.f x0).bind fun t249 => (if t249 = (x5.length : Int) then ((word_Lowest.f x0).bind fun t250 => (if t250 = x6 then ((word_Highest.f k x0).bind fun t251 => (if t251 = x7 then ((word_Rank.f x0 x1).bind fun t252 => ((windrowref01_Rank.f k x0 x1).bind fun t253 => (if t252 = t253 then ((word_Mask.f x1).bind fun t254 => ((windrowref01_Mask.f k x1).bind fun t255 => (some (t254 == t255)))) else (some false)))) else (some false))) else (some false))) else (some false))) else (some false))
def windrowlaw01_WordCounts.f (k : Nat) (a0 : Int) (a1 : Int) : Option (Bool) := (windrowref01_Places.f k a0).bind fun t243 => (if (t243.length : Int) > 0 then (if 0 < (t243.length : Int) then (if 0 ≤ (wrap64 ((t243.length : Int) - 1)) then (if (wrap64 ((t243.length : Int) - 1)) < (t243.length : Int) then (windrowlaw01_WordCounts.j0 k a0 a1 t243 (rd t243 0) (rd t243 (wrap64 ((t243.length : Int) - 1)))) else (none)) else (none)) else (none)) else (windrowlaw01_WordCounts.j0 k a0 a1 t243 64 (-1)))
theorem windrowlaw01_WordCounts.mono_l : ∀ k, (∀ y0 y1 y2 y3 y4, LeO (windrowlaw01_WordCounts.j0 k y0 y1 y2 y3 y4) (windrowlaw01_WordCounts.j0 (k + 1) y0 y1 y2 y3 y4))
  | 0 => fun _ _ _ _ _ r h => by simp [windrowlaw01_WordCounts.j0] at h
  | k + 1 => by
    have ih0 := windrowlaw01_WordCounts.mono_l k
    · intro y0 y1 y2 y3 y4
      unfold windrowlaw01_WordCounts.j0
      repeat' first
      | (with_reducible exact ih0 _ _ _ _ _)
      | (with_reducible exact windrowlaw01_worded.mono _)
      | (with_reducible exact windrowref01_Mask.mono _ _)
      | (with_reducible exact windrowref01_Places.mono _ _)
      | (with_reducible exact windrowref01_Rank.mono _ _ _)
      | (with_reducible exact word_Highest.mono _ _)
      | (with_reducible exact LeO.refl _)
      | (with_reducible exact LeO.none _)
      | (with_reducible refine LeO.ite ?_ ?_)
      | (with_reducible refine LeO.bind ?_ (fun _ => ?_))
      | exact ih0 _ _ _ _ _
      | exact windrowlaw01_worded.mono _
      | exact windrowref01_Mask.mono _ _
      | exact windrowref01_Places.mono _ _
      | exact windrowref01_Rank.mono _ _ _
      | exact word_Highest.mono _ _
      | exact LeO.none _
      | refine LeO.ite ?_ ?_
      | refine LeO.bind ?_ (fun _ => ?_)
theorem windrowlaw01_WordCounts.mono : ∀ a0 a1 k, LeO (windrowlaw01_WordCounts.f k a0 a1) (windrowlaw01_WordCounts.f (k + 1) a0 a1) := by
  intro a0 a1 k
  have ih0 := windrowlaw01_WordCounts.mono_l k
  unfold windrowlaw01_WordCounts.f
  repeat' first
      | (with_reducible exact ih0 _ _ _ _ _)
      | (with_reducible exact windrowlaw01_worded.mono _)
      | (with_reducible exact windrowref01_Mask.mono _ _)
      | (with_reducible exact windrowref01_Places.mono _ _)
      | (with_reducible exact windrowref01_Rank.mono _ _ _)
      | (with_reducible exact word_Highest.mono _ _)
      | (with_reducible exact LeO.refl _)
      | (with_reducible exact LeO.none _)
      | (with_reducible refine LeO.ite ?_ ?_)
      | (with_reducible refine LeO.bind ?_ (fun _ => ?_))
      | exact ih0 _ _ _ _ _
      | exact windrowlaw01_worded.mono _
      | exact windrowref01_Mask.mono _ _
      | exact windrowref01_Places.mono _ _
      | exact windrowref01_Rank.mono _ _ _
      | exact word_Highest.mono _ _
      | exact LeO.none _
      | refine LeO.ite ?_ ?_
      | refine LeO.bind ?_ (fun _ => ?_)
set_option maxHeartbeats 8000000 in
set_option maxRecDepth 100000 in
theorem windrowlaw01_WordCounts.calls (k : Nat) (a0 : Int) (a1 : Int) (r : Bool) (w : World) (HTRUE_ : Aside0 (r = true)) (HL_ : Aside0 (LAID w)) (h : windrowlaw01_WordCounts.f k a0 a1 = some r) :
    Calls Tryd.prog 13 #[.int .u64 a0, .int .i64 a1] w fun e w' => e = .returned (.bool r) ∧ Below w.heap.size w w' := by
  have HB := Aside0.mk (Below.refl w.heap.size w)
  have H : ((windrowref01_Places.f k a0).bind fun t243 => (if (t243.length : Int) > 0 then (if 0 < (t243.length : Int) then (if 0 ≤ (wrap64 ((t243.length : Int) - 1)) then (if (wrap64 ((t243.length : Int) - 1)) < (t243.length : Int) then (windrowlaw01_WordCounts.j0 k a0 a1 t243 (rd t243 0) (rd t243 (wrap64 ((t243.length : Int) - 1)))) else (none)) else (none)) else (none)) else (windrowlaw01_WordCounts.j0 k a0 a1 t243 64 (-1)))) = some r := h
  clear h
  replace H := Option.bind_eq_some_iff.mp H
  obtain ⟨t243, A30, H⟩ := H
  replace H : (if (t243.length : Int) > 0 then (if 0 < (t243.length : Int) then (if 0 ≤ (wrap64 ((t243.length : Int) - 1)) then (if (wrap64 ((t243.length : Int) - 1)) < (t243.length : Int) then (windrowlaw01_WordCounts.j0 k a0 a1 t243 (rd t243 0) (rd t243 (wrap64 ((t243.length : Int) - 1)))) else (none)) else (none)) else (none)) else (windrowlaw01_WordCounts.j0 k a0 a1 t243 64 (-1))) = some r := H
  have A3 := Aside0.mk A30
  clear A30
  have HC4 := Aside0.mk H
  clear H
  go_enter Tryd.func13, Tryd.ntmps13
  go_upto_if 12 with (first | (go_at_call 32; (with_reducible refine (windrowref01_Places.calls k a0 t243 _ A3.out).mono ?_); rintro e w5 ⟨v244, rfl, ho0, hb⟩; have n0_ := Aside0.mk (Kd.R_lower ho0 (below_size (by repeat (first | (with_reducible first | exact HB.out | apply below_alloc | apply pw_below_drewN | apply below_drew1) | exact HB.out)))); have n1_ := Aside0.mk (below_step (by repeat (first | (with_reducible first | exact HB.out | apply below_alloc | apply pw_below_drewN | apply below_drew1) | exact HB.out)) hb); clear HB; have HO245 := n0_; have HB := n1_; clear n0_ n1_; (try clear hb); (try clear hb2); (try clear hk); (try clear hi); (try clear ho0); obtain ⟨Ao6, co6, eo6⟩ := Kd.R_slice HO245.out; subst eo6))
  repeat (go_quiet (first | (go_at_call 32; (with_reducible refine (windrowref01_Places.calls k a0 t243 _ A3.out).mono ?_); rintro e w5 ⟨v244, rfl, ho0, hb⟩; have n0_ := Aside0.mk (Kd.R_lower ho0 (below_size (by repeat (first | (with_reducible first | exact HB.out | apply below_alloc | apply pw_below_drewN | apply below_drew1) | exact HB.out)))); have n1_ := Aside0.mk (below_step (by repeat (first | (with_reducible first | exact HB.out | apply below_alloc | apply pw_below_drewN | apply below_drew1) | exact HB.out)) hb); clear HB; have HO245 := n0_; have HB := n1_; clear n0_ n1_; (try clear hb); (try clear hb2); (try clear hk); (try clear hi); (try clear ho0); obtain ⟨Ao6, co6, eo6⟩ := Kd.R_slice HO245.out; subst eo6)); go_upto_if 12 with (first | (go_at_call 32; (with_reducible refine (windrowref01_Places.calls k a0 t243 _ A3.out).mono ?_); rintro e w5 ⟨v244, rfl, ho0, hb⟩; have n0_ := Aside0.mk (Kd.R_lower ho0 (below_size (by repeat (first | (with_reducible first | exact HB.out | apply below_alloc | apply pw_below_drewN | apply below_drew1) | exact HB.out)))); have n1_ := Aside0.mk (below_step (by repeat (first | (with_reducible first | exact HB.out | apply below_alloc | apply pw_below_drewN | apply below_drew1) | exact HB.out)) hb); clear HB; have HO245 := n0_; have HB := n1_; clear n0_ n1_; (try clear hb); (try clear hb2); (try clear hk); (try clear hi); (try clear ho0); obtain ⟨Ao6, co6, eo6⟩ := Kd.R_slice HO245.out; subst eo6)))
  (try simp only [Act.put, List.setIfInBounds_toArray, List.set_cons_zero, List.set_cons_succ])
  go_cut [6, 7] (fun v6 v7 wc => ∃ (kq : Nat) (x6_3 : Int) (x7_3 : Int), v6 = .int .i64 x6_3 ∧ v7 = .int .i64 x7_3 ∧ Aside0 (windrowlaw01_WordCounts.j0 kq a0 a1 t243 x6_3 x7_3 = some r) ∧ Aside0 (kq ≤ k) ∧ Aside0 (Kd.R (Kd.int .i64) 3 wc w.heap.size (fun _ => True) (.slice Ao6 t243.length co6) t243) ∧ Aside0 (Below w.heap.size w wc))
  case first =>
    have H := HC4.out
    clear HC4
    by_cases c7 : (t243.length : Int) > 0
    · rw [if_pos c7] at H
      have c7b0 : decide (0 < (t243.length : Int)) = true := decide_eq_true c7
      have c7b1 : decide (0 < t243.length) = true := decide_eq_true (by omega)
      clear c7
      (first | rw [c7b0] | (simp only [i64_w, i32_w]; rw [c7b0]) | rw [c7b1] | skip)
      by_cases c8 : 0 < (t243.length : Int)
      · rw [if_pos c8] at H
        have c8b0 : decide (0 < (t243.length : Int)) = true := decide_eq_true c8
        have c8b1 : decide (0 < t243.length) = true := decide_eq_true (by omega)
        clear c8
        obtain ⟨ji9, hji9⟩ : ∃ j_ : Int, (wrap64 ((t243.length : Int) - 1)) = j_ := ⟨_, rfl⟩
        replace H : (if 0 ≤ (ji9) then (if (ji9) < (t243.length : Int) then (windrowlaw01_WordCounts.j0 k a0 a1 t243 (rd t243 0) (rd t243 (ji9))) else (none)) else (none)) = some r := by first | (rw [hji9] at H; exact H) | (simp only [hji9] at H ⊢; exact H)
        have hji9w : (IntKind.i64.wrap ((t243.length : Int) - 1)) = ji9 := (i64_w _).trans hji9
        by_cases c10 : 0 ≤ (ji9)
        · rw [if_pos c10] at H
          have c10b0 : decide (0 ≤ (ji9)) = true := decide_eq_true c10
          clear c10
          by_cases c11 : (ji9) < (t243.length : Int)
          · rw [if_pos c11] at H
            have c11b0 : decide ((ji9) < (t243.length : Int)) = true := decide_eq_true c11
            clear c11
            have H' := Aside0.mk H
            clear H
            have p246 : 0 ≤ (0 : Int) := (by omega)
            have q246 : 0 < (t243.length : Int) := of_decide_eq_true (by first | (with_reducible assumption) | assumption)
            obtain ⟨ad246, e246, hx246_0⟩ := Kd.at_int (Kd.R_reads' HO245.out).2.2 0 p246 q246
            cases e246
            have qi246 : (0 < t243.length) = True := eq_true (by omega)
            (try rw [show ((0 : Int)).toNat = 0 from rfl] at hx246_0)
            (try rw [Addr.add_zero'] at hx246_0)
            replace p246 := eq_true p246
            replace q246 := eq_true q246
            have p247 : 0 ≤ ((ji9) : Int) := of_decide_eq_true (by first | (with_reducible assumption) | assumption)
            have q247 : (ji9) < (t243.length : Int) := of_decide_eq_true (by first | (with_reducible assumption) | assumption)
            obtain ⟨ad247, e247, hx247_0⟩ := Kd.at_int (Kd.R_reads' HO245.out).2.2 (ji9) p247 q247
            obtain rfl : ad246 = ad247 := (by injection e247)
            replace p247 := eq_true p247
            replace q247 := eq_true q247
            go_wp2
            repeat (go_quiet (fail); try go_wp2)
            go_meet
            case rel => exact ⟨_, (rd t243 0), (rd t243 (ji9)), (by first | rfl | (simp; done) | (simp [*]; done)), (by first | rfl | (simp; done) | (simp only [← hji9] <;> (first | rfl | simp)) | (simp [*]; done)), H', ⟨by first | omega | exact Nat.le_refl _⟩, ⟨by (with_reducible repeat (first | apply Kd.R_alloc | apply Kd.R_drewN | apply Kd.R_drew)); exact HO245.out⟩, ⟨by repeat (first | (with_reducible first | exact HB.out | apply below_alloc | apply pw_below_drewN | apply below_drew1) | exact HB.out)⟩⟩
          · rw [if_neg c11] at H
            exact absurd H (by simp)
        · rw [if_neg c10] at H
          exact absurd H (by simp)
      · rw [if_neg c8] at H
        exact absurd H (by simp)
    · rw [if_neg c7] at H
      have c7b0 : decide (0 < (t243.length : Int)) = false := decide_eq_false c7
      have c7b1 : decide (0 < t243.length) = false := decide_eq_false (by omega)
      clear c7
      (first | rw [c7b0] | (simp only [i64_w, i32_w]; rw [c7b0]) | rw [c7b1] | skip)
      have H' := Aside0.mk H
      clear H
      go_wp2
      repeat (go_quiet (fail); try go_wp2)
      go_meet
      case rel => exact ⟨_, (64), ((-1)), (by first | rfl | (simp; done) | (simp [*]; done)), (by first | rfl | (simp; done) | (simp [*]; done)), H', ⟨by first | omega | exact Nat.le_refl _⟩, ⟨by (with_reducible repeat (first | apply Kd.R_alloc | apply Kd.R_drewN | apply Kd.R_drew)); exact HO245.out⟩, ⟨by repeat (first | (with_reducible first | exact HB.out | apply below_alloc | apply pw_below_drewN | apply below_drew1) | exact HB.out)⟩⟩
  case rest =>
    clear HC4
    try clear c1
    try clear p2
    try clear q2
    try clear hx2
    try clear qi2
    try clear p6
    try clear c7
    try clear c7b0
    try clear c7b1
    try clear c8
    try clear c8b0
    try clear c8b1
    try clear c10
    try clear c10b0
    try clear c11
    try clear c11b0
    try clear hx246_0
    try clear hx247_0
    try clear p246
    try clear p247
    try clear q246
    try clear q247
    obtain ⟨kq, x6_3, x7_3, rfl, rfl, HA, HJ3, HO_5, HB⟩ := hcut
    cases kq with
    | zero => exact absurd HA.out (by simp [windrowlaw01_WordCounts.j0])
    | succ kj3 =>
      have H := HA.out
      clear HA
      simp only [windrowlaw01_WordCounts.j0] at H
      replace H := Option.bind_eq_some_iff.mp H
      obtain ⟨t248, A120, H⟩ := H
      replace H : (if t248 = true then ((word_Ones.f a0).bind fun t249 => (if t249 = (t243.length : Int) then ((word_Lowest.f a0).bind fun t250 => (if t250 = x6_3 then ((word_Highest.f kj3 a0).bind fun t251 => (if t251 = x7_3 then ((word_Rank.f a0 a1).bind fun t252 => ((windrowref01_Rank.f kj3 a0 a1).bind fun t253 => (if t252 = t253 then ((word_Mask.f a1).bind fun t254 => ((windrowref01_Mask.f kj3 a1).bind fun t255 => (some (t254 == t255)))) else (some false)))) else (some false))) else (some false))) else (some false))) else (some false)) = some r := H
      have A12 := Aside0.mk A120
      clear A120
      by_cases c13 : t248 = true
      · subst c13
        have H1 : ((word_Ones.f a0).bind fun t249 => (if t249 = (t243.length : Int) then ((word_Lowest.f a0).bind fun t250 => (if t250 = x6_3 then ((word_Highest.f kj3 a0).bind fun t251 => (if t251 = x7_3 then ((word_Rank.f a0 a1).bind fun t252 => ((windrowref01_Rank.f kj3 a0 a1).bind fun t253 => (if t252 = t253 then ((word_Mask.f a1).bind fun t254 => ((windrowref01_Mask.f kj3 a1).bind fun t255 => (some (t254 == t255)))) else (some false)))) else (some false))) else (some false))) else (some false))) = some r := by rw [if_pos rfl] at H; exact H
        clear H
        have H := H1
        clear H1
        replace H := Option.bind_eq_some_iff.mp H
        obtain ⟨t249, A140, H⟩ := H
        replace H : (if t249 = (t243.length : Int) then ((word_Lowest.f a0).bind fun t250 => (if t250 = x6_3 then ((word_Highest.f kj3 a0).bind fun t251 => (if t251 = x7_3 then ((word_Rank.f a0 a1).bind fun t252 => ((windrowref01_Rank.f kj3 a0 a1).bind fun t253 => (if t252 = t253 then ((word_Mask.f a1).bind fun t254 => ((windrowref01_Mask.f kj3 a1).bind fun t255 => (some (t254 == t255)))) else (some false)))) else (some false))) else (some false))) else (some false)) = some r := H
        have A14 := Aside0.mk A140
        clear A140
        by_cases c15 : t249 = (t243.length : Int)
        · rw [if_pos c15] at H
          have c15b0 : (t249 == (t243.length : Int)) = true := beq_iff_eq.mpr c15
          have c15b1 : (t249 != (t243.length : Int)) = false := bne_eq_false_iff_eq.mpr c15
          clear c15
          replace H := Option.bind_eq_some_iff.mp H
          obtain ⟨t250, A160, H⟩ := H
          replace H : (if t250 = x6_3 then ((word_Highest.f kj3 a0).bind fun t251 => (if t251 = x7_3 then ((word_Rank.f a0 a1).bind fun t252 => ((windrowref01_Rank.f kj3 a0 a1).bind fun t253 => (if t252 = t253 then ((word_Mask.f a1).bind fun t254 => ((windrowref01_Mask.f kj3 a1).bind fun t255 => (some (t254 == t255)))) else (some false)))) else (some false))) else (some false)) = some r := H
          have A16 := Aside0.mk A160
          clear A160
          by_cases c17 : t250 = x6_3
          · rw [if_pos c17] at H
            have c17b0 : (t250 == x6_3) = true := beq_iff_eq.mpr c17
            have c17b1 : (t250 != x6_3) = false := bne_eq_false_iff_eq.mpr c17
            clear c17
            replace H := Option.bind_eq_some_iff.mp H
            obtain ⟨t251, A180, H⟩ := H
            replace H : (if t251 = x7_3 then ((word_Rank.f a0 a1).bind fun t252 => ((windrowref01_Rank.f kj3 a0 a1).bind fun t253 => (if t252 = t253 then ((word_Mask.f a1).bind fun t254 => ((windrowref01_Mask.f kj3 a1).bind fun t255 => (some (t254 == t255)))) else (some false)))) else (some false)) = some r := H
            have A18 := Aside0.mk A180
            clear A180
            by_cases c19 : t251 = x7_3
            · rw [if_pos c19] at H
              have c19b0 : (t251 == x7_3) = true := beq_iff_eq.mpr c19
              have c19b1 : (t251 != x7_3) = false := bne_eq_false_iff_eq.mpr c19
              clear c19
              replace H := Option.bind_eq_some_iff.mp H
              obtain ⟨t252, A200, H⟩ := H
              replace H : ((windrowref01_Rank.f kj3 a0 a1).bind fun t253 => (if t252 = t253 then ((word_Mask.f a1).bind fun t254 => ((windrowref01_Mask.f kj3 a1).bind fun t255 => (some (t254 == t255)))) else (some false))) = some r := H
              have A20 := Aside0.mk A200
              clear A200
              replace H := Option.bind_eq_some_iff.mp H
              obtain ⟨t253, A210, H⟩ := H
              replace H : (if t252 = t253 then ((word_Mask.f a1).bind fun t254 => ((windrowref01_Mask.f kj3 a1).bind fun t255 => (some (t254 == t255)))) else (some false)) = some r := H
              have A21 := Aside0.mk A210
              clear A210
              by_cases c22 : t252 = t253
              · rw [if_pos c22] at H
                have c22b0 : (t252 == t253) = true := beq_iff_eq.mpr c22
                have c22b1 : (t252 != t253) = false := bne_eq_false_iff_eq.mpr c22
                clear c22
                replace H := Option.bind_eq_some_iff.mp H
                obtain ⟨t254, A230, H⟩ := H
                replace H : ((windrowref01_Mask.f kj3 a1).bind fun t255 => (some (t254 == t255))) = some r := H
                have A23 := Aside0.mk A230
                clear A230
                replace H := Option.bind_eq_some_iff.mp H
                obtain ⟨t255, A240, H⟩ := H
                replace H : (some (t254 == t255)) = some r := H
                have A24 := Aside0.mk A240
                clear A240
                obtain rfl := Option.some.inj H
                go_wp2_with (first | (go_at_call 14; (with_reducible refine (windrowlaw01_worded.calls kj3  true _ ?side1 A12.out).mono ?_); (case side1 => exact ⟨LAID.below HL_.out (by repeat (first | (with_reducible first | exact HB.out | apply below_alloc | apply pw_below_drewN | apply below_drew1) | exact HB.out))⟩); rintro e w25 ⟨rfl, hb⟩; have n0_ := Aside0.mk (Kd.R_below (by (with_reducible repeat (first | apply Kd.R_alloc | apply Kd.R_drewN | apply Kd.R_drew)); exact HO_5.out) hb); have n1_ := Aside0.mk (below_step (by repeat (first | (with_reducible first | exact HB.out | apply below_alloc | apply pw_below_drewN | apply below_drew1) | exact HB.out)) hb); clear HO_5; clear HB; have HO_5 := n0_; have HB := n1_; clear n0_ n1_; (try clear hb); (try clear hb2); (try clear hk); (try clear hi)) | (go_at_call 28; (with_reducible refine (word_Ones.calls a0 t249 _ A14.out).mono ?_); rintro e w' ⟨rfl, ⟨nd, rfl⟩⟩; (try first | exact ⟨rfl, _, World.drewN_drewN _ _ _⟩ | exact ⟨rfl, _, Eq.trans (World.drewN_drewN _ _ _) (congrArg (World.drewN _) (Nat.add_assoc _ _ _))⟩)) | (go_at_call 33; (with_reducible refine (word_Lowest.calls a0 t250 _ ?side1 A16.out).mono ?_); (case side1 => exact ⟨LAID.below HL_.out (by repeat (first | (with_reducible first | exact HB.out | apply below_alloc | apply pw_below_drewN | apply below_drew1) | exact HB.out))⟩); rintro e w' ⟨rfl, ⟨nd, rfl⟩⟩; (try first | exact ⟨rfl, _, World.drewN_drewN _ _ _⟩ | exact ⟨rfl, _, Eq.trans (World.drewN_drewN _ _ _) (congrArg (World.drewN _) (Nat.add_assoc _ _ _))⟩)) | (go_at_call 34; (with_reducible refine (word_Highest.calls kj3 a0 t251 _ A18.out).mono ?_); rintro e w' ⟨rfl, ⟨nd, rfl⟩⟩; (try first | exact ⟨rfl, _, World.drewN_drewN _ _ _⟩ | exact ⟨rfl, _, Eq.trans (World.drewN_drewN _ _ _) (congrArg (World.drewN _) (Nat.add_assoc _ _ _))⟩)) | (go_at_call 31; (with_reducible refine (word_Rank.calls a0 a1 t252 _ A20.out).mono ?_); rintro e w' ⟨rfl, ⟨nd, rfl⟩⟩; (try first | exact ⟨rfl, _, World.drewN_drewN _ _ _⟩ | exact ⟨rfl, _, Eq.trans (World.drewN_drewN _ _ _) (congrArg (World.drewN _) (Nat.add_assoc _ _ _))⟩)) | (go_at_call 35; (with_reducible refine (windrowref01_Rank.calls kj3 a0 a1 t253 _ A21.out).mono ?_); rintro e w26 ⟨rfl, hb⟩; have n0_ := Aside0.mk (Kd.R_below (by (with_reducible repeat (first | apply Kd.R_alloc | apply Kd.R_drewN | apply Kd.R_drew)); exact HO_5.out) hb); have n1_ := Aside0.mk (below_step (by repeat (first | (with_reducible first | exact HB.out | apply below_alloc | apply pw_below_drewN | apply below_drew1) | exact HB.out)) hb); clear HO_5; clear HB; have HO_5 := n0_; have HB := n1_; clear n0_ n1_; (try clear hb); (try clear hb2); (try clear hk); (try clear hi)) | (go_at_call 36; (with_reducible refine (word_Mask.calls a1 t254 _ A23.out).mono ?_); rintro e w' ⟨rfl, ⟨nd, rfl⟩⟩; (try first | exact ⟨rfl, _, World.drewN_drewN _ _ _⟩ | exact ⟨rfl, _, Eq.trans (World.drewN_drewN _ _ _) (congrArg (World.drewN _) (Nat.add_assoc _ _ _))⟩)) | (go_at_call 37; (with_reducible refine (windrowref01_Mask.calls kj3 a1 t255 _ A24.out).mono ?_); rintro e w' ⟨rfl, ⟨nd, rfl⟩⟩; (try first | exact ⟨rfl, _, World.drewN_drewN _ _ _⟩ | exact ⟨rfl, _, Eq.trans (World.drewN_drewN _ _ _) (congrArg (World.drewN _) (Nat.add_assoc _ _ _))⟩)))
                repeat (go_quiet (first | (go_at_call 14; (with_reducible refine (windrowlaw01_worded.calls kj3  true _ ?side1 A12.out).mono ?_); (case side1 => exact ⟨LAID.below HL_.out (by repeat (first | (with_reducible first | exact HB.out | apply below_alloc | apply pw_below_drewN | apply below_drew1) | exact HB.out))⟩); rintro e w25 ⟨rfl, hb⟩; have n0_ := Aside0.mk (Kd.R_below (by (with_reducible repeat (first | apply Kd.R_alloc | apply Kd.R_drewN | apply Kd.R_drew)); exact HO_5.out) hb); have n1_ := Aside0.mk (below_step (by repeat (first | (with_reducible first | exact HB.out | apply below_alloc | apply pw_below_drewN | apply below_drew1) | exact HB.out)) hb); clear HO_5; clear HB; have HO_5 := n0_; have HB := n1_; clear n0_ n1_; (try clear hb); (try clear hb2); (try clear hk); (try clear hi)) | (go_at_call 28; (with_reducible refine (word_Ones.calls a0 t249 _ A14.out).mono ?_); rintro e w' ⟨rfl, ⟨nd, rfl⟩⟩; (try first | exact ⟨rfl, _, World.drewN_drewN _ _ _⟩ | exact ⟨rfl, _, Eq.trans (World.drewN_drewN _ _ _) (congrArg (World.drewN _) (Nat.add_assoc _ _ _))⟩)) | (go_at_call 33; (with_reducible refine (word_Lowest.calls a0 t250 _ ?side1 A16.out).mono ?_); (case side1 => exact ⟨LAID.below HL_.out (by repeat (first | (with_reducible first | exact HB.out | apply below_alloc | apply pw_below_drewN | apply below_drew1) | exact HB.out))⟩); rintro e w' ⟨rfl, ⟨nd, rfl⟩⟩; (try first | exact ⟨rfl, _, World.drewN_drewN _ _ _⟩ | exact ⟨rfl, _, Eq.trans (World.drewN_drewN _ _ _) (congrArg (World.drewN _) (Nat.add_assoc _ _ _))⟩)) | (go_at_call 34; (with_reducible refine (word_Highest.calls kj3 a0 t251 _ A18.out).mono ?_); rintro e w' ⟨rfl, ⟨nd, rfl⟩⟩; (try first | exact ⟨rfl, _, World.drewN_drewN _ _ _⟩ | exact ⟨rfl, _, Eq.trans (World.drewN_drewN _ _ _) (congrArg (World.drewN _) (Nat.add_assoc _ _ _))⟩)) | (go_at_call 31; (with_reducible refine (word_Rank.calls a0 a1 t252 _ A20.out).mono ?_); rintro e w' ⟨rfl, ⟨nd, rfl⟩⟩; (try first | exact ⟨rfl, _, World.drewN_drewN _ _ _⟩ | exact ⟨rfl, _, Eq.trans (World.drewN_drewN _ _ _) (congrArg (World.drewN _) (Nat.add_assoc _ _ _))⟩)) | (go_at_call 35; (with_reducible refine (windrowref01_Rank.calls kj3 a0 a1 t253 _ A21.out).mono ?_); rintro e w26 ⟨rfl, hb⟩; have n0_ := Aside0.mk (Kd.R_below (by (with_reducible repeat (first | apply Kd.R_alloc | apply Kd.R_drewN | apply Kd.R_drew)); exact HO_5.out) hb); have n1_ := Aside0.mk (below_step (by repeat (first | (with_reducible first | exact HB.out | apply below_alloc | apply pw_below_drewN | apply below_drew1) | exact HB.out)) hb); clear HO_5; clear HB; have HO_5 := n0_; have HB := n1_; clear n0_ n1_; (try clear hb); (try clear hb2); (try clear hk); (try clear hi)) | (go_at_call 36; (with_reducible refine (word_Mask.calls a1 t254 _ A23.out).mono ?_); rintro e w' ⟨rfl, ⟨nd, rfl⟩⟩; (try first | exact ⟨rfl, _, World.drewN_drewN _ _ _⟩ | exact ⟨rfl, _, Eq.trans (World.drewN_drewN _ _ _) (congrArg (World.drewN _) (Nat.add_assoc _ _ _))⟩)) | (go_at_call 37; (with_reducible refine (windrowref01_Mask.calls kj3 a1 t255 _ A24.out).mono ?_); rintro e w' ⟨rfl, ⟨nd, rfl⟩⟩; (try first | exact ⟨rfl, _, World.drewN_drewN _ _ _⟩ | exact ⟨rfl, _, Eq.trans (World.drewN_drewN _ _ _) (congrArg (World.drewN _) (Nat.add_assoc _ _ _))⟩))); try go_wp2_with (first | (go_at_call 14; (with_reducible refine (windrowlaw01_worded.calls kj3  true _ ?side1 A12.out).mono ?_); (case side1 => exact ⟨LAID.below HL_.out (by repeat (first | (with_reducible first | exact HB.out | apply below_alloc | apply pw_below_drewN | apply below_drew1) | exact HB.out))⟩); rintro e w25 ⟨rfl, hb⟩; have n0_ := Aside0.mk (Kd.R_below (by (with_reducible repeat (first | apply Kd.R_alloc | apply Kd.R_drewN | apply Kd.R_drew)); exact HO_5.out) hb); have n1_ := Aside0.mk (below_step (by repeat (first | (with_reducible first | exact HB.out | apply below_alloc | apply pw_below_drewN | apply below_drew1) | exact HB.out)) hb); clear HO_5; clear HB; have HO_5 := n0_; have HB := n1_; clear n0_ n1_; (try clear hb); (try clear hb2); (try clear hk); (try clear hi)) | (go_at_call 28; (with_reducible refine (word_Ones.calls a0 t249 _ A14.out).mono ?_); rintro e w' ⟨rfl, ⟨nd, rfl⟩⟩; (try first | exact ⟨rfl, _, World.drewN_drewN _ _ _⟩ | exact ⟨rfl, _, Eq.trans (World.drewN_drewN _ _ _) (congrArg (World.drewN _) (Nat.add_assoc _ _ _))⟩)) | (go_at_call 33; (with_reducible refine (word_Lowest.calls a0 t250 _ ?side1 A16.out).mono ?_); (case side1 => exact ⟨LAID.below HL_.out (by repeat (first | (with_reducible first | exact HB.out | apply below_alloc | apply pw_below_drewN | apply below_drew1) | exact HB.out))⟩); rintro e w' ⟨rfl, ⟨nd, rfl⟩⟩; (try first | exact ⟨rfl, _, World.drewN_drewN _ _ _⟩ | exact ⟨rfl, _, Eq.trans (World.drewN_drewN _ _ _) (congrArg (World.drewN _) (Nat.add_assoc _ _ _))⟩)) | (go_at_call 34; (with_reducible refine (word_Highest.calls kj3 a0 t251 _ A18.out).mono ?_); rintro e w' ⟨rfl, ⟨nd, rfl⟩⟩; (try first | exact ⟨rfl, _, World.drewN_drewN _ _ _⟩ | exact ⟨rfl, _, Eq.trans (World.drewN_drewN _ _ _) (congrArg (World.drewN _) (Nat.add_assoc _ _ _))⟩)) | (go_at_call 31; (with_reducible refine (word_Rank.calls a0 a1 t252 _ A20.out).mono ?_); rintro e w' ⟨rfl, ⟨nd, rfl⟩⟩; (try first | exact ⟨rfl, _, World.drewN_drewN _ _ _⟩ | exact ⟨rfl, _, Eq.trans (World.drewN_drewN _ _ _) (congrArg (World.drewN _) (Nat.add_assoc _ _ _))⟩)) | (go_at_call 35; (with_reducible refine (windrowref01_Rank.calls kj3 a0 a1 t253 _ A21.out).mono ?_); rintro e w26 ⟨rfl, hb⟩; have n0_ := Aside0.mk (Kd.R_below (by (with_reducible repeat (first | apply Kd.R_alloc | apply Kd.R_drewN | apply Kd.R_drew)); exact HO_5.out) hb); have n1_ := Aside0.mk (below_step (by repeat (first | (with_reducible first | exact HB.out | apply below_alloc | apply pw_below_drewN | apply below_drew1) | exact HB.out)) hb); clear HO_5; clear HB; have HO_5 := n0_; have HB := n1_; clear n0_ n1_; (try clear hb); (try clear hb2); (try clear hk); (try clear hi)) | (go_at_call 36; (with_reducible refine (word_Mask.calls a1 t254 _ A23.out).mono ?_); rintro e w' ⟨rfl, ⟨nd, rfl⟩⟩; (try first | exact ⟨rfl, _, World.drewN_drewN _ _ _⟩ | exact ⟨rfl, _, Eq.trans (World.drewN_drewN _ _ _) (congrArg (World.drewN _) (Nat.add_assoc _ _ _))⟩)) | (go_at_call 37; (with_reducible refine (windrowref01_Mask.calls kj3 a1 t255 _ A24.out).mono ?_); rintro e w' ⟨rfl, ⟨nd, rfl⟩⟩; (try first | exact ⟨rfl, _, World.drewN_drewN _ _ _⟩ | exact ⟨rfl, _, Eq.trans (World.drewN_drewN _ _ _) (congrArg (World.drewN _) (Nat.add_assoc _ _ _))⟩))))
                go_ret
                exact ⟨by first | rfl | (simp [errW_none, errW_some] <;> rfl) | (simp [*, errW_none, errW_some] <;> rfl), by repeat (first | (with_reducible first | exact HB.out | apply below_alloc | apply pw_below_drewN | apply below_drew1) | exact HB.out)⟩
              · rw [if_neg c22] at H
                have c22b0 : (t252 == t253) = false := beq_eq_false_iff_ne.mpr c22
                have c22b1 : (t252 != t253) = true := bne_iff_ne.mpr c22
                exact absurd (H.trans (congrArg some HTRUE_.out)) (by simp)
            · rw [if_neg c19] at H
              have c19b0 : (t251 == x7_3) = false := beq_eq_false_iff_ne.mpr c19
              have c19b1 : (t251 != x7_3) = true := bne_iff_ne.mpr c19
              exact absurd (H.trans (congrArg some HTRUE_.out)) (by simp)
          · rw [if_neg c17] at H
            have c17b0 : (t250 == x6_3) = false := beq_eq_false_iff_ne.mpr c17
            have c17b1 : (t250 != x6_3) = true := bne_iff_ne.mpr c17
            exact absurd (H.trans (congrArg some HTRUE_.out)) (by simp)
        · rw [if_neg c15] at H
          have c15b0 : (t249 == (t243.length : Int)) = false := beq_eq_false_iff_ne.mpr c15
          have c15b1 : (t249 != (t243.length : Int)) = true := bne_iff_ne.mpr c15
          exact absurd (H.trans (congrArg some HTRUE_.out)) (by simp)
      · replace c13 := Bool.eq_false_iff.mpr c13
        subst c13
        have H1 : (some false) = some r := by rw [if_neg (show ¬ (false = true) by decide)] at H; exact H
        clear H
        have H := H1
        clear H1
        exact absurd (H.trans (congrArg some HTRUE_.out)) (by simp)

/-- The pure statement of windrowlaw01_WordCounts. -/
def windrowlaw01_WordCounts.Pure : Prop := ∀ (a0 : Int) (a1 : Int), (Lit.int .u64 a0).wf = true → (Lit.int .i64 a1).wf = true → ∃ k, windrowlaw01_WordCounts.f k a0 a1 = some true
theorem windrowlaw01_WordCounts.walk (P : windrowlaw01_WordCounts.Pure) (a0 : Int) (a1 : Int) (w : World) (w0 : (Lit.int .u64 a0).wf = true) (w1 : (Lit.int .i64 a1).wf = true) (HL : LAID w) :
    Calls Tryd.prog 13 #[.int .u64 a0, .int .i64 a1] w fun e w' => e = .returned (.bool true) ∧ Below w.heap.size w w' := by
  obtain ⟨k, h⟩ := P a0 a1 w0 w1
  refine (windrowlaw01_WordCounts.calls k a0 a1 true w ⟨rfl⟩ ⟨HL⟩ h).mono ?_
  rintro e w' ⟨rfl, hd⟩
  exact ⟨rfl, hd⟩

end Go.Proofs.YtahmhhbpdgopjaaDoor.PAll

-- Written by a program of the prover's (mp.py). Not trusted: Lean checks it.
import Derived.Test.YtjakjaohgndebaaDoorPAllx0
import Derived.Test.YtjakjaohgndebaaDoorPAllx1
import Derived.Test.YtjakjaohgndebaaDoorPAllx2
namespace Go.Proofs.YtjakjaohgndebaaDoor.PAll
open Go.RowKit Go.Proofs.YtjakjaohgndebaaDoorW.PrintWords Go.Proofs.YtjakjaohgndebaaDoorW.PrintLast Go.Proofs.YtjakjaohgndebaaDoorW.PrintMore
attribute [local go_sem] max2_int min2_int max_two min_two max_three min_three max_four min_four   -- for this text's walks alone
set_option linter.unusedVariables false
set_option linter.unusedSimpArgs false

/-! ### windrowlaw05_SizesCovers: function 5 -/
mutual
def windrowlaw05_SizesCovers.j0 : Nat → Int → Int → Int → Int → Bool → Option (Bool)
  | 0, _, _, _, _, _ => none
  | k + 1, x0, x3, x5, x7, x58 => if x58 = true then (some false) else (windrowlaw05_SizesCovers.l0 k x0 x3 x5 x7 0)
def windrowlaw05_SizesCovers.l0 : Nat → Int → Int → Int → Int → Int → Option (Bool)
  | 0, _, _, _, _, _ => none
  | k + 1, x0, x3, x5, x7, x9 => if x9 < 64 then ((sizes_Cell.f x0 x9).bind fun t165 => (if ((decide (x9 < (wrap64 (x5 * x3)))) != (decide (t165 ≥ 0))) = true then (some false) else (if t165 ≥ 0 then (if t165 > x9 then (windrowlaw05_SizesCovers.j2 k x0 x3 x5 x7 x9 t165 true) else (if (wrap64 (x9 - t165)) ≥ x3 then (windrowlaw05_SizesCovers.j2 k x0 x3 x5 x7 x9 t165 true) else ((sizes_Cell.f x0 t165).bind fun t166 => (if t166 = t165 then (if 0 ≤ t165 then (windrowlaw05_SizesCovers.j2 k x0 x3 x5 x7 x9 t165 ((Go.bits .and .u64 (shr .u64 x7 t165) 1) != 1)) else (none)) else (windrowlaw05_SizesCovers.j2 k x0 x3 x5 x7 x9 t165 true))))) else (windrowlaw05_SizesCovers.j2 k x0 x3 x5 x7 x9 t165 false)))) else (if (wrap64 (x5 * x3)) ≤ 64 then (some (decide ((wrap64 (64 - (wrap64 (x5 * x3)))) < x3))) else (some false))
def windrowlaw05_SizesCovers.j2 : Nat → Int → Int → Int → Int → Int → Int → Bool → Option (Bool)
  | 0, _, _, _, _, _, _, _ => none
  | k + 1, x0, x3, x5, x7, x9, x10, x101 => if x101 = true then (some false) else (if x10 < 0 then (if x10 = (-1) then (windrowlaw05_SizesCovers.l0 k x0 x3 x5 x7 (wrap64 (x9 + 1))) else (some false)) else (windrowlaw05_SizesCovers.l0 k x0 x3 x5 x7 (wrap64 (x9 + 1))))
end
def windrowlaw05_SizesCovers.f (k : Nat) (a0 : Int) : Option (Bool) := (sizes_Words.f (wrap64 (Int.tmod (IntKind.u64.wrap (a0)) 8))).bind fun bt155 => ((sizes_Cells.f (wrap64 (Int.tmod (IntKind.u64.wrap (a0)) 8))).bind fun bt157 => ((sizes_Starts.f (wrap64 (Int.tmod (IntKind.u64.wrap (a0)) 8))).bind fun bt159 => ((windrowlaw05_sized.f).bind fun t161 => (if t161 = true then (if bt155.2 = 0 then (if bt157.2 = 0 then (if bt159.2 = 0 then (if bt155.1 < 1 then (windrowlaw05_SizesCovers.j0 k (wrap64 (Int.tmod (IntKind.u64.wrap (a0)) 8)) bt155.1 bt157.1 bt159.1 true) else (if bt155.1 > 64 then (windrowlaw05_SizesCovers.j0 k (wrap64 (Int.tmod (IntKind.u64.wrap (a0)) 8)) bt155.1 bt157.1 bt159.1 true) else ((windrowref01_Places.f k bt159.1).bind fun t162 => (windrowlaw05_SizesCovers.j0 k (wrap64 (Int.tmod (IntKind.u64.wrap (a0)) 8)) bt155.1 bt157.1 bt159.1 ((t162.length : Int) != bt157.1))))) else (windrowlaw05_SizesCovers.j0 k (wrap64 (Int.tmod (IntKind.u64.wrap (a0)) 8)) bt155.1 bt157.1 bt159.1 true)) else (windrowlaw05_SizesCovers.j0 k (wrap64 (Int.tmod (IntKind.u64.wrap (a0)) 8)) bt155.1 bt157.1 bt159.1 true)) else (windrowlaw05_SizesCovers.j0 k (wrap64 (Int.tmod (IntKind.u64.wrap (a0)) 8)) bt155.1 bt157.1 bt159.1 true)) else (windrowlaw05_SizesCovers.j0 k (wrap64 (Int.tmod (IntKind.u64.wrap (a0)) 8)) bt155.1 bt157.1 bt159.1 true)))))
theorem windrowlaw05_SizesCovers.mono_l : ∀ k, (∀ y0 y1 y2 y3 y4, LeO (windrowlaw05_SizesCovers.j0 k y0 y1 y2 y3 y4) (windrowlaw05_SizesCovers.j0 (k + 1) y0 y1 y2 y3 y4)) ∧ (∀ y0 y1 y2 y3 y4, LeO (windrowlaw05_SizesCovers.l0 k y0 y1 y2 y3 y4) (windrowlaw05_SizesCovers.l0 (k + 1) y0 y1 y2 y3 y4)) ∧ (∀ y0 y1 y2 y3 y4 y5 y6, LeO (windrowlaw05_SizesCovers.j2 k y0 y1 y2 y3 y4 y5 y6) (windrowlaw05_SizesCovers.j2 (k + 1) y0 y1 y2 y3 y4 y5 y6))
  | 0 => ⟨fun _ _ _ _ _ r h => by simp [windrowlaw05_SizesCovers.j0] at h, fun _ _ _ _ _ r h => by simp [windrowlaw05_SizesCovers.l0] at h, fun _ _ _ _ _ _ _ r h => by simp [windrowlaw05_SizesCovers.j2] at h⟩
  | k + 1 => by
    obtain ⟨ih0, ih1, ih2⟩ := windrowlaw05_SizesCovers.mono_l k
    refine ⟨?_, ?_, ?_⟩
    · intro y0 y1 y2 y3 y4
      unfold windrowlaw05_SizesCovers.j0
      repeat' first
      | (with_reducible exact ih0 _ _ _ _ _)
      | (with_reducible exact ih1 _ _ _ _ _)
      | (with_reducible exact ih2 _ _ _ _ _ _ _)
      | (with_reducible exact windrowref01_Places.mono _ _)
      | (with_reducible exact LeO.refl _)
      | (with_reducible exact LeO.none _)
      | (with_reducible refine LeO.ite ?_ ?_)
      | (with_reducible refine LeO.bind ?_ (fun _ => ?_))
      | exact ih0 _ _ _ _ _
      | exact ih1 _ _ _ _ _
      | exact ih2 _ _ _ _ _ _ _
      | exact windrowref01_Places.mono _ _
      | exact LeO.none _
      | refine LeO.ite ?_ ?_
      | refine LeO.bind ?_ (fun _ => ?_)
    · intro y0 y1 y2 y3 y4
      unfold windrowlaw05_SizesCovers.l0
      repeat' first
      | (with_reducible exact ih0 _ _ _ _ _)
      | (with_reducible exact ih1 _ _ _ _ _)
      | (with_reducible exact ih2 _ _ _ _ _ _ _)
      | (with_reducible exact windrowref01_Places.mono _ _)
      | (with_reducible exact LeO.refl _)
      | (with_reducible exact LeO.none _)
      | (with_reducible refine LeO.ite ?_ ?_)
      | (with_reducible refine LeO.bind ?_ (fun _ => ?_))
      | exact ih0 _ _ _ _ _
      | exact ih1 _ _ _ _ _
      | exact ih2 _ _ _ _ _ _ _
      | exact windrowref01_Places.mono _ _
      | exact LeO.none _
      | refine LeO.ite ?_ ?_
      | refine LeO.bind ?_ (fun _ => ?_)
    · intro y0 y1 y2 y3 y4 y5 y6
      unfold windrowlaw05_SizesCovers.j2
      repeat' first
      | (with_reducible exact ih0 _ _ _ _ _)
      | (with_reducible exact ih1 _ _ _ _ _)
      | (with_reducible exact ih2 _ _ _ _ _ _ _)
      | (with_reducible exact windrowref01_Places.mono _ _)
      | (with_reducible exact LeO.refl _)
      | (with_reducible exact LeO.none _)
      | (with_reducible refine LeO.ite ?_ ?_)
      | (with_reducible refine LeO.bind ?_ (fun _ => ?_))
      | exact ih0 _ _ _ _ _
      | exact ih1 _ _ _ _ _
      | exact ih2 _ _ _ _ _ _ _
      | exact windrowref01_Places.mono _ _
      | exact LeO.none _
      | refine LeO.ite ?_ ?_
      | refine LeO.bind ?_ (fun _ => ?_)
theorem windrowlaw05_SizesCovers.mono : ∀ a0 k, LeO (windrowlaw05_SizesCovers.f k a0) (windrowlaw05_SizesCovers.f (k + 1) a0) := by
  intro a0 k
  obtain ⟨ih0, ih1, ih2⟩ := windrowlaw05_SizesCovers.mono_l k
  unfold windrowlaw05_SizesCovers.f
  repeat' first
      | (with_reducible exact ih0 _ _ _ _ _)
      | (with_reducible exact ih1 _ _ _ _ _)
      | (with_reducible exact ih2 _ _ _ _ _ _ _)
      | (with_reducible exact windrowref01_Places.mono _ _)
      | (with_reducible exact LeO.refl _)
      | (with_reducible exact LeO.none _)
      | (with_reducible refine LeO.ite ?_ ?_)
      | (with_reducible refine LeO.bind ?_ (fun _ => ?_))
      | exact ih0 _ _ _ _ _
      | exact ih1 _ _ _ _ _
      | exact ih2 _ _ _ _ _ _ _
      | exact windrowref01_Places.mono _ _
      | exact LeO.none _
      | refine LeO.ite ?_ ?_
      | refine LeO.bind ?_ (fun _ => ?_)
set_option maxHeartbeats 8000000 in
set_option maxRecDepth 100000 in
theorem windrowlaw05_SizesCovers.calls (k : Nat) (a0 : Int) (r : Bool) (w : World) (HTRUE_ : Aside0 (r = true)) (HL_ : Aside0 (LAID w)) (h : windrowlaw05_SizesCovers.f k a0 = some r) :
    Calls Tryd.prog 5 #[.int .i64 a0] w fun e w' => e = .returned (.bool r) ∧ Below w.heap.size w w' := by
  have HB := Aside0.mk (Below.refl w.heap.size w)
  have H : ((sizes_Words.f (wrap64 (Int.tmod (IntKind.u64.wrap (a0)) 8))).bind fun bt155 => ((sizes_Cells.f (wrap64 (Int.tmod (IntKind.u64.wrap (a0)) 8))).bind fun bt157 => ((sizes_Starts.f (wrap64 (Int.tmod (IntKind.u64.wrap (a0)) 8))).bind fun bt159 => ((windrowlaw05_sized.f).bind fun t161 => (if t161 = true then (if bt155.2 = 0 then (if bt157.2 = 0 then (if bt159.2 = 0 then (if bt155.1 < 1 then (windrowlaw05_SizesCovers.j0 k (wrap64 (Int.tmod (IntKind.u64.wrap (a0)) 8)) bt155.1 bt157.1 bt159.1 true) else (if bt155.1 > 64 then (windrowlaw05_SizesCovers.j0 k (wrap64 (Int.tmod (IntKind.u64.wrap (a0)) 8)) bt155.1 bt157.1 bt159.1 true) else ((windrowref01_Places.f k bt159.1).bind fun t162 => (windrowlaw05_SizesCovers.j0 k (wrap64 (Int.tmod (IntKind.u64.wrap (a0)) 8)) bt155.1 bt157.1 bt159.1 ((t162.length : Int) != bt157.1))))) else (windrowlaw05_SizesCovers.j0 k (wrap64 (Int.tmod (IntKind.u64.wrap (a0)) 8)) bt155.1 bt157.1 bt159.1 true)) else (windrowlaw05_SizesCovers.j0 k (wrap64 (Int.tmod (IntKind.u64.wrap (a0)) 8)) bt155.1 bt157.1 bt159.1 true)) else (windrowlaw05_SizesCovers.j0 k (wrap64 (Int.tmod (IntKind.u64.wrap (a0)) 8)) bt155.1 bt157.1 bt159.1 true)) else (windrowlaw05_SizesCovers.j0 k (wrap64 (Int.tmod (IntKind.u64.wrap (a0)) 8)) bt155.1 bt157.1 bt159.1 true)))))) = some r := h
  clear h
  replace H := Option.bind_eq_some_iff.mp H
  obtain ⟨⟨t155, t156⟩, A20, H⟩ := H
  replace H : ((sizes_Cells.f (wrap64 (Int.tmod (IntKind.u64.wrap (a0)) 8))).bind fun bt157 => ((sizes_Starts.f (wrap64 (Int.tmod (IntKind.u64.wrap (a0)) 8))).bind fun bt159 => ((windrowlaw05_sized.f).bind fun t161 => (if t161 = true then (if t156 = 0 then (if bt157.2 = 0 then (if bt159.2 = 0 then (if t155 < 1 then (windrowlaw05_SizesCovers.j0 k (wrap64 (Int.tmod (IntKind.u64.wrap (a0)) 8)) t155 bt157.1 bt159.1 true) else (if t155 > 64 then (windrowlaw05_SizesCovers.j0 k (wrap64 (Int.tmod (IntKind.u64.wrap (a0)) 8)) t155 bt157.1 bt159.1 true) else ((windrowref01_Places.f k bt159.1).bind fun t162 => (windrowlaw05_SizesCovers.j0 k (wrap64 (Int.tmod (IntKind.u64.wrap (a0)) 8)) t155 bt157.1 bt159.1 ((t162.length : Int) != bt157.1))))) else (windrowlaw05_SizesCovers.j0 k (wrap64 (Int.tmod (IntKind.u64.wrap (a0)) 8)) t155 bt157.1 bt159.1 true)) else (windrowlaw05_SizesCovers.j0 k (wrap64 (Int.tmod (IntKind.u64.wrap (a0)) 8)) t155 bt157.1 bt159.1 true)) else (windrowlaw05_SizesCovers.j0 k (wrap64 (Int.tmod (IntKind.u64.wrap (a0)) 8)) t155 bt157.1 bt159.1 true)) else (windrowlaw05_SizesCovers.j0 k (wrap64 (Int.tmod (IntKind.u64.wrap (a0)) 8)) t155 bt157.1 bt159.1 true))))) = some r := H
  have A2 := Aside0.mk A20
  clear A20
  replace H := Option.bind_eq_some_iff.mp H
  obtain ⟨⟨t157, t158⟩, A30, H⟩ := H
  replace H : ((sizes_Starts.f (wrap64 (Int.tmod (IntKind.u64.wrap (a0)) 8))).bind fun bt159 => ((windrowlaw05_sized.f).bind fun t161 => (if t161 = true then (if t156 = 0 then (if t158 = 0 then (if bt159.2 = 0 then (if t155 < 1 then (windrowlaw05_SizesCovers.j0 k (wrap64 (Int.tmod (IntKind.u64.wrap (a0)) 8)) t155 t157 bt159.1 true) else (if t155 > 64 then (windrowlaw05_SizesCovers.j0 k (wrap64 (Int.tmod (IntKind.u64.wrap (a0)) 8)) t155 t157 bt159.1 true) else ((windrowref01_Places.f k bt159.1).bind fun t162 => (windrowlaw05_SizesCovers.j0 k (wrap64 (Int.tmod (IntKind.u64.wrap (a0)) 8)) t155 t157 bt159.1 ((t162.length : Int) != t157))))) else (windrowlaw05_SizesCovers.j0 k (wrap64 (Int.tmod (IntKind.u64.wrap (a0)) 8)) t155 t157 bt159.1 true)) else (windrowlaw05_SizesCovers.j0 k (wrap64 (Int.tmod (IntKind.u64.wrap (a0)) 8)) t155 t157 bt159.1 true)) else (windrowlaw05_SizesCovers.j0 k (wrap64 (Int.tmod (IntKind.u64.wrap (a0)) 8)) t155 t157 bt159.1 true)) else (windrowlaw05_SizesCovers.j0 k (wrap64 (Int.tmod (IntKind.u64.wrap (a0)) 8)) t155 t157 bt159.1 true)))) = some r := H
  have A3 := Aside0.mk A30
  clear A30
  replace H := Option.bind_eq_some_iff.mp H
  obtain ⟨⟨t159, t160⟩, A40, H⟩ := H
  replace H : ((windrowlaw05_sized.f).bind fun t161 => (if t161 = true then (if t156 = 0 then (if t158 = 0 then (if t160 = 0 then (if t155 < 1 then (windrowlaw05_SizesCovers.j0 k (wrap64 (Int.tmod (IntKind.u64.wrap (a0)) 8)) t155 t157 t159 true) else (if t155 > 64 then (windrowlaw05_SizesCovers.j0 k (wrap64 (Int.tmod (IntKind.u64.wrap (a0)) 8)) t155 t157 t159 true) else ((windrowref01_Places.f k t159).bind fun t162 => (windrowlaw05_SizesCovers.j0 k (wrap64 (Int.tmod (IntKind.u64.wrap (a0)) 8)) t155 t157 t159 ((t162.length : Int) != t157))))) else (windrowlaw05_SizesCovers.j0 k (wrap64 (Int.tmod (IntKind.u64.wrap (a0)) 8)) t155 t157 t159 true)) else (windrowlaw05_SizesCovers.j0 k (wrap64 (Int.tmod (IntKind.u64.wrap (a0)) 8)) t155 t157 t159 true)) else (windrowlaw05_SizesCovers.j0 k (wrap64 (Int.tmod (IntKind.u64.wrap (a0)) 8)) t155 t157 t159 true)) else (windrowlaw05_SizesCovers.j0 k (wrap64 (Int.tmod (IntKind.u64.wrap (a0)) 8)) t155 t157 t159 true))) = some r := H
  have A4 := Aside0.mk A40
  clear A40
  have HC5 := Aside0.mk H
  clear H
  go_enter Tryd.func5, Tryd.ntmps5
  go_upto_region 5 with (first | ((with_reducible refine gate_callee (f := 10) rfl ?_); refine goesL_ (some 17) rfl rfl Tryd.func10 (by kernel_rfl) rfl #[.int .i64 (wrap64 (Int.tmod (IntKind.u64.wrap (a0)) 8))] rfl (by (try simp only [List.map_toArray, List.map_cons, List.map_nil]); first | done | rfl | (simp only [List.length_drop, List.length_take]; rfl)) ?_; (with_reducible refine (sizes_Words.calls (wrap64 (Int.tmod (IntKind.u64.wrap (a0)) 8)) t155 t156 _ ?side1 A2.out).mono ?_); (case side1 => exact ⟨LAID.below HL_.out (by repeat (first | (with_reducible first | exact HB.out | apply below_alloc | apply pw_below_drewN | apply below_drew1) | exact HB.out))⟩); rintro e w' ⟨rfl, ⟨nd, rfl⟩⟩; refine ⟨_, rfl, ?_⟩) | ((with_reducible refine gate_callee (f := 12) rfl ?_); refine goesL_ (some 22) rfl rfl Tryd.func12 (by kernel_rfl) rfl #[.int .i64 (wrap64 (Int.tmod (IntKind.u64.wrap (a0)) 8))] rfl (by (try simp only [List.map_toArray, List.map_cons, List.map_nil]); first | done | rfl | (simp only [List.length_drop, List.length_take]; rfl)) ?_; (with_reducible refine (sizes_Cells.calls (wrap64 (Int.tmod (IntKind.u64.wrap (a0)) 8)) t157 t158 _ ?side1 A3.out).mono ?_); (case side1 => exact ⟨LAID.below HL_.out (by repeat (first | (with_reducible first | exact HB.out | apply below_alloc | apply pw_below_drewN | apply below_drew1) | exact HB.out))⟩); rintro e w' ⟨rfl, ⟨nd, rfl⟩⟩; refine ⟨_, rfl, ?_⟩) | ((with_reducible refine gate_callee (f := 13) rfl ?_); refine goesL_ (some 27) rfl rfl Tryd.func13 (by kernel_rfl) rfl #[.int .i64 (wrap64 (Int.tmod (IntKind.u64.wrap (a0)) 8))] rfl (by (try simp only [List.map_toArray, List.map_cons, List.map_nil]); first | done | rfl | (simp only [List.length_drop, List.length_take]; rfl)) ?_; (with_reducible refine (sizes_Starts.calls (wrap64 (Int.tmod (IntKind.u64.wrap (a0)) 8)) t159 t160 _ ?side1 A4.out).mono ?_); (case side1 => exact ⟨LAID.below HL_.out (by repeat (first | (with_reducible first | exact HB.out | apply below_alloc | apply pw_below_drewN | apply below_drew1) | exact HB.out))⟩); rintro e w6 ⟨rfl, hb⟩; refine ⟨_, rfl, ?_⟩; have n0_ := Aside0.mk (below_step (by repeat (first | (with_reducible first | exact HB.out | apply below_alloc | apply pw_below_drewN | apply below_drew1) | exact HB.out)) hb); clear HB; have HB := n0_; clear n0_; (try clear hb); (try clear hb2); (try clear hk); (try clear hi)))
  (try simp only [Act.put, List.setIfInBounds_toArray, List.set_cons_zero, List.set_cons_succ])
  go_cut [58] (fun v58 wc => ∃ (kq : Nat) (x58_4 : Bool), v58 = .bool x58_4 ∧ Aside0 (windrowlaw05_SizesCovers.j0 kq (wrap64 (Int.tmod (IntKind.u64.wrap (a0)) 8)) t155 t157 t159 x58_4 = some r) ∧ Aside0 (kq ≤ k) ∧ Aside0 (Below w.heap.size w wc))
  case first =>
    have H := HC5.out
    clear HC5
    replace H := Option.bind_eq_some_iff.mp H
    obtain ⟨t161, A70, H⟩ := H
    replace H : (if t161 = true then (if t156 = 0 then (if t158 = 0 then (if t160 = 0 then (if t155 < 1 then (windrowlaw05_SizesCovers.j0 k (wrap64 (Int.tmod (IntKind.u64.wrap (a0)) 8)) t155 t157 t159 true) else (if t155 > 64 then (windrowlaw05_SizesCovers.j0 k (wrap64 (Int.tmod (IntKind.u64.wrap (a0)) 8)) t155 t157 t159 true) else ((windrowref01_Places.f k t159).bind fun t162 => (windrowlaw05_SizesCovers.j0 k (wrap64 (Int.tmod (IntKind.u64.wrap (a0)) 8)) t155 t157 t159 ((t162.length : Int) != t157))))) else (windrowlaw05_SizesCovers.j0 k (wrap64 (Int.tmod (IntKind.u64.wrap (a0)) 8)) t155 t157 t159 true)) else (windrowlaw05_SizesCovers.j0 k (wrap64 (Int.tmod (IntKind.u64.wrap (a0)) 8)) t155 t157 t159 true)) else (windrowlaw05_SizesCovers.j0 k (wrap64 (Int.tmod (IntKind.u64.wrap (a0)) 8)) t155 t157 t159 true)) else (windrowlaw05_SizesCovers.j0 k (wrap64 (Int.tmod (IntKind.u64.wrap (a0)) 8)) t155 t157 t159 true)) = some r := H
    have A7 := Aside0.mk A70
    clear A70
    by_cases c8 : t161 = true
    · subst c8
      have H1 : (if t156 = 0 then (if t158 = 0 then (if t160 = 0 then (if t155 < 1 then (windrowlaw05_SizesCovers.j0 k (wrap64 (Int.tmod (IntKind.u64.wrap (a0)) 8)) t155 t157 t159 true) else (if t155 > 64 then (windrowlaw05_SizesCovers.j0 k (wrap64 (Int.tmod (IntKind.u64.wrap (a0)) 8)) t155 t157 t159 true) else ((windrowref01_Places.f k t159).bind fun t162 => (windrowlaw05_SizesCovers.j0 k (wrap64 (Int.tmod (IntKind.u64.wrap (a0)) 8)) t155 t157 t159 ((t162.length : Int) != t157))))) else (windrowlaw05_SizesCovers.j0 k (wrap64 (Int.tmod (IntKind.u64.wrap (a0)) 8)) t155 t157 t159 true)) else (windrowlaw05_SizesCovers.j0 k (wrap64 (Int.tmod (IntKind.u64.wrap (a0)) 8)) t155 t157 t159 true)) else (windrowlaw05_SizesCovers.j0 k (wrap64 (Int.tmod (IntKind.u64.wrap (a0)) 8)) t155 t157 t159 true)) = some r := by rw [if_pos rfl] at H; exact H
      clear H
      have H := H1
      clear H1
      by_cases c9 : t156 = 0
      · rw [if_pos c9] at H
        have c9b0 : (t156 == 0) = true := beq_iff_eq.mpr c9
        have c9b1 : (t156 != 0) = false := bne_eq_false_iff_eq.mpr c9
        clear c9
        (first | rw [c9b0] | (simp only [i64_w, i32_w]; rw [c9b0]) | rw [c9b1] | skip)
        by_cases c10 : t158 = 0
        · rw [if_pos c10] at H
          have c10b0 : (t158 == 0) = true := beq_iff_eq.mpr c10
          have c10b1 : (t158 != 0) = false := bne_eq_false_iff_eq.mpr c10
          clear c10
          by_cases c11 : t160 = 0
          · rw [if_pos c11] at H
            have c11b0 : (t160 == 0) = true := beq_iff_eq.mpr c11
            have c11b1 : (t160 != 0) = false := bne_eq_false_iff_eq.mpr c11
            clear c11
            by_cases c12 : t155 < 1
            · rw [if_pos c12] at H
              have c12b0 : decide (t155 < 1) = true := decide_eq_true c12
              clear c12
              have H' := Aside0.mk H
              clear H
              go_wp2_with (first | ((with_reducible refine gate_callee (f := 15) rfl ?_); refine goesL_ (some 30) rfl rfl Tryd.func15 (by kernel_rfl) rfl #[] rfl (by (try simp only [List.map_toArray, List.map_cons, List.map_nil]); first | done | rfl | (simp only [List.length_drop, List.length_take]; rfl)) ?_; (with_reducible refine (windrowlaw05_sized.calls  true _ ?side1 A7.out).mono ?_); (case side1 => exact ⟨LAID.below HL_.out (by repeat (first | (with_reducible first | exact HB.out | apply below_alloc | apply pw_below_drewN | apply below_drew1) | exact HB.out))⟩); rintro e w13 ⟨rfl, hb⟩; refine ⟨_, rfl, ?_⟩; have n0_ := Aside0.mk (below_step (by repeat (first | (with_reducible first | exact HB.out | apply below_alloc | apply pw_below_drewN | apply below_drew1) | exact HB.out)) hb); clear HB; have HB := n0_; clear n0_; (try clear hb); (try clear hb2); (try clear hk); (try clear hi)))
              go_meet
              case rel => exact ⟨_, (true), (by first | rfl | (simp; done) | (simp [*]; done)), H', ⟨by first | omega | exact Nat.le_refl _⟩, ⟨by repeat (first | (with_reducible first | exact HB.out | apply below_alloc | apply pw_below_drewN | apply below_drew1) | exact HB.out)⟩⟩
            · rw [if_neg c12] at H
              have c12b0 : decide (t155 < 1) = false := decide_eq_false c12
              clear c12
              by_cases c14 : t155 > 64
              · rw [if_pos c14] at H
                have c14b0 : decide (64 < t155) = true := decide_eq_true c14
                clear c14
                have H' := Aside0.mk H
                clear H
                go_wp2_with (first | ((with_reducible refine gate_callee (f := 15) rfl ?_); refine goesL_ (some 30) rfl rfl Tryd.func15 (by kernel_rfl) rfl #[] rfl (by (try simp only [List.map_toArray, List.map_cons, List.map_nil]); first | done | rfl | (simp only [List.length_drop, List.length_take]; rfl)) ?_; (with_reducible refine (windrowlaw05_sized.calls  true _ ?side1 A7.out).mono ?_); (case side1 => exact ⟨LAID.below HL_.out (by repeat (first | (with_reducible first | exact HB.out | apply below_alloc | apply pw_below_drewN | apply below_drew1) | exact HB.out))⟩); rintro e w15 ⟨rfl, hb⟩; refine ⟨_, rfl, ?_⟩; have n0_ := Aside0.mk (below_step (by repeat (first | (with_reducible first | exact HB.out | apply below_alloc | apply pw_below_drewN | apply below_drew1) | exact HB.out)) hb); clear HB; have HB := n0_; clear n0_; (try clear hb); (try clear hb2); (try clear hk); (try clear hi)))
                go_meet
                case rel => exact ⟨_, (true), (by first | rfl | (simp; done) | (simp [*]; done)), H', ⟨by first | omega | exact Nat.le_refl _⟩, ⟨by repeat (first | (with_reducible first | exact HB.out | apply below_alloc | apply pw_below_drewN | apply below_drew1) | exact HB.out)⟩⟩
              · rw [if_neg c14] at H
                have c14b0 : decide (64 < t155) = false := decide_eq_false c14
                clear c14
                replace H := Option.bind_eq_some_iff.mp H
                obtain ⟨t162, A160, H⟩ := H
                replace H : (windrowlaw05_SizesCovers.j0 k (wrap64 (Int.tmod (IntKind.u64.wrap (a0)) 8)) t155 t157 t159 ((t162.length : Int) != t157)) = some r := H
                have A16 := Aside0.mk A160
                clear A160
                have H' := Aside0.mk H
                clear H
                go_wp2_with (first | ((with_reducible refine gate_callee (f := 15) rfl ?_); refine goesL_ (some 30) rfl rfl Tryd.func15 (by kernel_rfl) rfl #[] rfl (by (try simp only [List.map_toArray, List.map_cons, List.map_nil]); first | done | rfl | (simp only [List.length_drop, List.length_take]; rfl)) ?_; (with_reducible refine (windrowlaw05_sized.calls  true _ ?side1 A7.out).mono ?_); (case side1 => exact ⟨LAID.below HL_.out (by repeat (first | (with_reducible first | exact HB.out | apply below_alloc | apply pw_below_drewN | apply below_drew1) | exact HB.out))⟩); rintro e w17 ⟨rfl, hb⟩; refine ⟨_, rfl, ?_⟩; have n0_ := Aside0.mk (below_step (by repeat (first | (with_reducible first | exact HB.out | apply below_alloc | apply pw_below_drewN | apply below_drew1) | exact HB.out)) hb); clear HB; have HB := n0_; clear n0_; (try clear hb); (try clear hb2); (try clear hk); (try clear hi)) | (go_at_call 18; (with_reducible refine (windrowref01_Places.calls k t159 t162 _ A16.out).mono ?_); rintro e w18 ⟨v163, rfl, ho0, hb⟩; have n0_ := Aside0.mk (Kd.R_lower ho0 (below_size (by repeat (first | (with_reducible first | exact HB.out | apply below_alloc | apply pw_below_drewN | apply below_drew1) | exact HB.out)))); have n1_ := Aside0.mk (below_step (by repeat (first | (with_reducible first | exact HB.out | apply below_alloc | apply pw_below_drewN | apply below_drew1) | exact HB.out)) hb); clear HB; have HO164 := n0_; have HB := n1_; clear n0_ n1_; (try clear hb); (try clear hb2); (try clear hk); (try clear hi); (try clear ho0); obtain ⟨Ao19, co19, eo19⟩ := Kd.R_slice HO164.out; subst eo19))
                go_meet
                case rel => exact ⟨_, (((t162.length : Int) != t157)), (by first | rfl | (simp; done) | (simp [*]; done)), H', ⟨by first | omega | exact Nat.le_refl _⟩, ⟨by repeat (first | (with_reducible first | exact HB.out | apply below_alloc | apply pw_below_drewN | apply below_drew1) | exact HB.out)⟩⟩
          · rw [if_neg c11] at H
            have c11b0 : (t160 == 0) = false := beq_eq_false_iff_ne.mpr c11
            have c11b1 : (t160 != 0) = true := bne_iff_ne.mpr c11
            have H' := Aside0.mk H
            clear H
            go_wp2_with (first | ((with_reducible refine gate_callee (f := 15) rfl ?_); refine goesL_ (some 30) rfl rfl Tryd.func15 (by kernel_rfl) rfl #[] rfl (by (try simp only [List.map_toArray, List.map_cons, List.map_nil]); first | done | rfl | (simp only [List.length_drop, List.length_take]; rfl)) ?_; (with_reducible refine (windrowlaw05_sized.calls  true _ ?side1 A7.out).mono ?_); (case side1 => exact ⟨LAID.below HL_.out (by repeat (first | (with_reducible first | exact HB.out | apply below_alloc | apply pw_below_drewN | apply below_drew1) | exact HB.out))⟩); rintro e w20 ⟨rfl, hb⟩; refine ⟨_, rfl, ?_⟩; have n0_ := Aside0.mk (below_step (by repeat (first | (with_reducible first | exact HB.out | apply below_alloc | apply pw_below_drewN | apply below_drew1) | exact HB.out)) hb); clear HB; have HB := n0_; clear n0_; (try clear hb); (try clear hb2); (try clear hk); (try clear hi)))
            go_meet
            case rel => exact ⟨_, (true), (by first | rfl | (simp; done) | (simp [*]; done)), H', ⟨by first | omega | exact Nat.le_refl _⟩, ⟨by repeat (first | (with_reducible first | exact HB.out | apply below_alloc | apply pw_below_drewN | apply below_drew1) | exact HB.out)⟩⟩
        · rw [if_neg c10] at H
          have c10b0 : (t158 == 0) = false := beq_eq_false_iff_ne.mpr c10
          have c10b1 : (t158 != 0) = true := bne_iff_ne.mpr c10
          have H' := Aside0.mk H
          clear H
          go_wp2_with (first | ((with_reducible refine gate_callee (f := 15) rfl ?_); refine goesL_ (some 30) rfl rfl Tryd.func15 (by kernel_rfl) rfl #[] rfl (by (try simp only [List.map_toArray, List.map_cons, List.map_nil]); first | done | rfl | (simp only [List.length_drop, List.length_take]; rfl)) ?_; (with_reducible refine (windrowlaw05_sized.calls  true _ ?side1 A7.out).mono ?_); (case side1 => exact ⟨LAID.below HL_.out (by repeat (first | (with_reducible first | exact HB.out | apply below_alloc | apply pw_below_drewN | apply below_drew1) | exact HB.out))⟩); rintro e w21 ⟨rfl, hb⟩; refine ⟨_, rfl, ?_⟩; have n0_ := Aside0.mk (below_step (by repeat (first | (with_reducible first | exact HB.out | apply below_alloc | apply pw_below_drewN | apply below_drew1) | exact HB.out)) hb); clear HB; have HB := n0_; clear n0_; (try clear hb); (try clear hb2); (try clear hk); (try clear hi)))
          go_meet
          case rel => exact ⟨_, (true), (by first | rfl | (simp; done) | (simp [*]; done)), H', ⟨by first | omega | exact Nat.le_refl _⟩, ⟨by repeat (first | (with_reducible first | exact HB.out | apply below_alloc | apply pw_below_drewN | apply below_drew1) | exact HB.out)⟩⟩
      · rw [if_neg c9] at H
        have c9b0 : (t156 == 0) = false := beq_eq_false_iff_ne.mpr c9
        have c9b1 : (t156 != 0) = true := bne_iff_ne.mpr c9
        (first | rw [c9b0] | (simp only [i64_w, i32_w]; rw [c9b0]) | rw [c9b1] | skip)
        have H' := Aside0.mk H
        clear H
        go_wp2_with (first | ((with_reducible refine gate_callee (f := 15) rfl ?_); refine goesL_ (some 30) rfl rfl Tryd.func15 (by kernel_rfl) rfl #[] rfl (by (try simp only [List.map_toArray, List.map_cons, List.map_nil]); first | done | rfl | (simp only [List.length_drop, List.length_take]; rfl)) ?_; (with_reducible refine (windrowlaw05_sized.calls  true _ ?side1 A7.out).mono ?_); (case side1 => exact ⟨LAID.below HL_.out (by repeat (first | (with_reducible first | exact HB.out | apply below_alloc | apply pw_below_drewN | apply below_drew1) | exact HB.out))⟩); rintro e w22 ⟨rfl, hb⟩; refine ⟨_, rfl, ?_⟩; have n0_ := Aside0.mk (below_step (by repeat (first | (with_reducible first | exact HB.out | apply below_alloc | apply pw_below_drewN | apply below_drew1) | exact HB.out)) hb); clear HB; have HB := n0_; clear n0_; (try clear hb); (try clear hb2); (try clear hk); (try clear hi)))
        go_meet
        case rel => exact ⟨_, (true), (by first | rfl | (simp; done) | (simp [*]; done)), H', ⟨by first | omega | exact Nat.le_refl _⟩, ⟨by repeat (first | (with_reducible first | exact HB.out | apply below_alloc | apply pw_below_drewN | apply below_drew1) | exact HB.out)⟩⟩
    · replace c8 := Bool.eq_false_iff.mpr c8
      subst c8
      have H1 : (windrowlaw05_SizesCovers.j0 k (wrap64 (Int.tmod (IntKind.u64.wrap (a0)) 8)) t155 t157 t159 true) = some r := by rw [if_neg (show ¬ (false = true) by decide)] at H; exact H
      clear H
      have H := H1
      clear H1
      have H' := Aside0.mk H
      clear H
      go_wp2_with (first | ((with_reducible refine gate_callee (f := 15) rfl ?_); refine goesL_ (some 30) rfl rfl Tryd.func15 (by kernel_rfl) rfl #[] rfl (by (try simp only [List.map_toArray, List.map_cons, List.map_nil]); first | done | rfl | (simp only [List.length_drop, List.length_take]; rfl)) ?_; (with_reducible refine (windrowlaw05_sized.calls  false _ ?side1 A7.out).mono ?_); (case side1 => exact ⟨LAID.below HL_.out (by repeat (first | (with_reducible first | exact HB.out | apply below_alloc | apply pw_below_drewN | apply below_drew1) | exact HB.out))⟩); rintro e w23 ⟨rfl, hb⟩; refine ⟨_, rfl, ?_⟩; have n0_ := Aside0.mk (below_step (by repeat (first | (with_reducible first | exact HB.out | apply below_alloc | apply pw_below_drewN | apply below_drew1) | exact HB.out)) hb); clear HB; have HB := n0_; clear n0_; (try clear hb); (try clear hb2); (try clear hk); (try clear hi)))
      go_meet
      case rel => exact ⟨_, (true), (by first | rfl | (simp; done) | (simp [*]; done)), H', ⟨by first | omega | exact Nat.le_refl _⟩, ⟨by repeat (first | (with_reducible first | exact HB.out | apply below_alloc | apply pw_below_drewN | apply below_drew1) | exact HB.out)⟩⟩
  case rest =>
    clear HC5
    try clear c1
    try clear p2
    try clear c5
    try clear p6
    try clear c8
    try clear c9
    try clear c9b0
    try clear c9b1
    try clear c10
    try clear c10b0
    try clear c10b1
    try clear c11
    try clear c11b0
    try clear c11b1
    try clear c12
    try clear c12b0
    try clear c13
    try clear c14
    try clear c14b0
    try clear c15
    obtain ⟨kq, x58_4, rfl, HA, HJ4, HB⟩ := hcut
    cases kq with
    | zero => exact absurd HA.out (by simp [windrowlaw05_SizesCovers.j0])
    | succ kj4 =>
      have H := HA.out
      clear HA
      simp only [windrowlaw05_SizesCovers.j0] at H
      by_cases c24 : x58_4 = true
      · subst c24
        have H1 : (some false) = some r := by rw [if_pos rfl] at H; exact H
        clear H
        have H := H1
        clear H1
        exact absurd (H.trans (congrArg some HTRUE_.out)) (by simp)
      · replace c24 := Bool.eq_false_iff.mpr c24
        subst c24
        have H1 : (windrowlaw05_SizesCovers.l0 kj4 (wrap64 (Int.tmod (IntKind.u64.wrap (a0)) 8)) t155 t157 t159 0) = some r := by rw [if_neg (show ¬ (false = true) by decide)] at H; exact H
        clear H
        have H := H1
        clear H1
        have H' := Aside0.mk H
        clear H
        go_wp2
        go_loopg [9] kj4 (fun kq v9 w' => ∃ (x9_2 : Int), v9 = .int .i64 x9_2 ∧ Aside0 (windrowlaw05_SizesCovers.l0 kq (wrap64 (Int.tmod (IntKind.u64.wrap (a0)) 8)) t155 t157 t159 x9_2 = some r) ∧ Aside0 (kq ≤ kj4) ∧ Aside0 (Below w.heap.size w w'))
        case atStart => exact ⟨(0), (by first | rfl | (simp; done) | (simp [*]; done)), H', ⟨Nat.le_refl _⟩, ⟨by repeat (first | (with_reducible first | exact HB.out | apply below_alloc | apply pw_below_drewN | apply below_drew1) | exact HB.out)⟩⟩
        case round =>
          clear H'
          try clear c1
          try clear c2
          try clear p2
          try clear c5
          try clear p6
          try clear c8
          try clear c9
          try clear c9b0
          try clear c9b1
          try clear c10
          try clear c10b0
          try clear c10b1
          try clear c11
          try clear c11b0
          try clear c11b1
          try clear c12
          try clear c12b0
          try clear c13
          try clear c14
          try clear c14b0
          try clear c15
          try clear c24
          try clear p2
          try clear p6
          obtain ⟨x9_2, rfl, HA, HK2, HB⟩ := hrel
          cases gk with
          | zero => exact absurd HA.out (by simp [windrowlaw05_SizesCovers.l0])
          | succ k2 =>
            have H := HA.out
            clear HA
            simp only [windrowlaw05_SizesCovers.l0] at H
            by_cases c25 : x9_2 < 64
            · rw [if_pos c25] at H
              have c25b0 : decide (x9_2 < 64) = true := decide_eq_true c25
              clear c25
              replace H := Option.bind_eq_some_iff.mp H
              obtain ⟨t165, A260, H⟩ := H
              replace H : (if ((decide (x9_2 < (wrap64 (t157 * t155)))) != (decide (t165 ≥ 0))) = true then (some false) else (if t165 ≥ 0 then (if t165 > x9_2 then (windrowlaw05_SizesCovers.j2 k2 (wrap64 (Int.tmod (IntKind.u64.wrap (a0)) 8)) t155 t157 t159 x9_2 t165 true) else (if (wrap64 (x9_2 - t165)) ≥ t155 then (windrowlaw05_SizesCovers.j2 k2 (wrap64 (Int.tmod (IntKind.u64.wrap (a0)) 8)) t155 t157 t159 x9_2 t165 true) else ((sizes_Cell.f (wrap64 (Int.tmod (IntKind.u64.wrap (a0)) 8)) t165).bind fun t166 => (if t166 = t165 then (if 0 ≤ t165 then (windrowlaw05_SizesCovers.j2 k2 (wrap64 (Int.tmod (IntKind.u64.wrap (a0)) 8)) t155 t157 t159 x9_2 t165 ((Go.bits .and .u64 (shr .u64 t159 t165) 1) != 1)) else (none)) else (windrowlaw05_SizesCovers.j2 k2 (wrap64 (Int.tmod (IntKind.u64.wrap (a0)) 8)) t155 t157 t159 x9_2 t165 true))))) else (windrowlaw05_SizesCovers.j2 k2 (wrap64 (Int.tmod (IntKind.u64.wrap (a0)) 8)) t155 t157 t159 x9_2 t165 false))) = some r := H
              have A26 := Aside0.mk A260
              clear A260
              by_cases c27 : ((decide (x9_2 < (wrap64 (t157 * t155)))) != (decide (t165 ≥ 0))) = true
              · rw [if_pos c27] at H
                have c27b0 : ((decide (x9_2 < (wrap64 (t157 * t155)))) != (decide (t165 ≥ 0))) = true := c27
                (try (have c27b1 : decide ((decide (x9_2 < (wrap64 (t157 * t155)))) = (decide (t165 ≥ 0))) = false := by simpa using c27))
                (try (have c27b2 : ((decide (x9_2 < (wrap64 (t157 * t155)))) == (decide (t165 ≥ 0))) = false := by simpa using c27))
                (try (have c27b3 : ¬ ((decide (x9_2 < (wrap64 (t157 * t155)))) = (decide (t165 ≥ 0))) := by simpa using c27))
                clear c27
                exact absurd (H.trans (congrArg some HTRUE_.out)) (by simp)
              · rw [if_neg c27] at H
                have c27b0 : ((decide (x9_2 < (wrap64 (t157 * t155)))) != (decide (t165 ≥ 0))) = false := by simpa using c27
                (try (have c27b1 : decide ((decide (x9_2 < (wrap64 (t157 * t155)))) = (decide (t165 ≥ 0))) = true := by simpa using c27))
                (try (have c27b2 : ((decide (x9_2 < (wrap64 (t157 * t155)))) == (decide (t165 ≥ 0))) = true := by simpa using c27))
                clear c27
                have HC28 := Aside0.mk H
                clear H
                go_upto_region 13 with (first | ((with_reducible refine gate_callee (f := 19) rfl ?_); refine goesL_ (some 65) rfl rfl Tryd.func19 (by kernel_rfl) rfl #[.int .i64 (wrap64 (Int.tmod (IntKind.u64.wrap (a0)) 8)), .int .i64 x9_2] rfl (by (try simp only [List.map_toArray, List.map_cons, List.map_nil]); first | done | rfl | (simp only [List.length_drop, List.length_take]; rfl)) ?_; (with_reducible refine (sizes_Cell.calls (wrap64 (Int.tmod (IntKind.u64.wrap (a0)) 8)) x9_2 t165 _ ?side1 A26.out).mono ?_); (case side1 => exact ⟨LAID.below HL_.out (by repeat (first | (with_reducible first | exact HB.out | apply below_alloc | apply pw_below_drewN | apply below_drew1) | exact HB.out))⟩); rintro e w' ⟨rfl, ⟨nd, rfl⟩⟩; refine ⟨_, rfl, ?_⟩))
                (try simp only [Act.put, List.setIfInBounds_toArray, List.set_cons_zero, List.set_cons_succ])
                go_cut [101] (fun v101 wc => ∃ (kq : Nat) (x101_27 : Bool), v101 = .bool x101_27 ∧ Aside0 (windrowlaw05_SizesCovers.j2 kq (wrap64 (Int.tmod (IntKind.u64.wrap (a0)) 8)) t155 t157 t159 x9_2 t165 x101_27 = some r) ∧ Aside0 (kq ≤ k2) ∧ Aside0 (Below w.heap.size w wc))
                case first =>
                  have H := HC28.out
                  clear HC28
                  by_cases c29 : t165 ≥ 0
                  · rw [if_pos c29] at H
                    have c29b0 : decide (0 ≤ t165) = true := decide_eq_true c29
                    clear c29
                    (first | rw [c29b0] | (simp only [i64_w, i32_w]; rw [c29b0]) | skip)
                    by_cases c30 : t165 > x9_2
                    · rw [if_pos c30] at H
                      have c30b0 : decide (x9_2 < t165) = true := decide_eq_true c30
                      clear c30
                      have H' := Aside0.mk H
                      clear H
                      go_wp2
                      go_meet
                      case rel => exact ⟨_, (true), (by first | rfl | (simp; done) | (simp [*]; done)), H', ⟨by have := HJ4.out; have := HK2.out; first | omega | exact Nat.le_refl _⟩, ⟨by repeat (first | (with_reducible first | exact HB.out | apply below_alloc | apply pw_below_drewN | apply below_drew1) | exact HB.out)⟩⟩
                    · rw [if_neg c30] at H
                      have c30b0 : decide (x9_2 < t165) = false := decide_eq_false c30
                      clear c30
                      by_cases c31 : (wrap64 (x9_2 - t165)) ≥ t155
                      · rw [if_pos c31] at H
                        have c31b0 : decide (t155 ≤ (wrap64 (x9_2 - t165))) = true := decide_eq_true c31
                        clear c31
                        have H' := Aside0.mk H
                        clear H
                        go_wp2
                        go_meet
                        case rel => exact ⟨_, (true), (by first | rfl | (simp; done) | (simp [*]; done)), H', ⟨by have := HJ4.out; have := HK2.out; first | omega | exact Nat.le_refl _⟩, ⟨by repeat (first | (with_reducible first | exact HB.out | apply below_alloc | apply pw_below_drewN | apply below_drew1) | exact HB.out)⟩⟩
                      · rw [if_neg c31] at H
                        have c31b0 : decide (t155 ≤ (wrap64 (x9_2 - t165))) = false := decide_eq_false c31
                        clear c31
                        replace H := Option.bind_eq_some_iff.mp H
                        obtain ⟨t166, A320, H⟩ := H
                        replace H : (if t166 = t165 then (if 0 ≤ t165 then (windrowlaw05_SizesCovers.j2 k2 (wrap64 (Int.tmod (IntKind.u64.wrap (a0)) 8)) t155 t157 t159 x9_2 t165 ((Go.bits .and .u64 (shr .u64 t159 t165) 1) != 1)) else (none)) else (windrowlaw05_SizesCovers.j2 k2 (wrap64 (Int.tmod (IntKind.u64.wrap (a0)) 8)) t155 t157 t159 x9_2 t165 true)) = some r := H
                        have A32 := Aside0.mk A320
                        clear A320
                        by_cases c33 : t166 = t165
                        · rw [if_pos c33] at H
                          have c33b0 : (t166 == t165) = true := beq_iff_eq.mpr c33
                          have c33b1 : (t166 != t165) = false := bne_eq_false_iff_eq.mpr c33
                          clear c33
                          by_cases c34 : 0 ≤ t165
                          · rw [if_pos c34] at H
                            have c34b0 := eq_true c34
                            have c34b1 : decide (0 ≤ t165) = true := decide_eq_true c34
                            clear c34
                            obtain ⟨ji35, hji35⟩ : ∃ j_ : Int, (shr .u64 t159 t165) = j_ := ⟨_, rfl⟩
                            replace H : (windrowlaw05_SizesCovers.j2 k2 (wrap64 (Int.tmod (IntKind.u64.wrap (a0)) 8)) t155 t157 t159 x9_2 t165 ((Go.bits .and .u64 (ji35) 1) != 1)) = some r := by first | (rw [hji35] at H; exact H) | (simp only [hji35] at H ⊢; exact H)
                            (try rw [hji35] at A32)
                            have hji35_ : (t159 / 2 ^ min t165.toNat 64) = ji35 := hji35
                            have hji35z : t165 ≤ 64 → (t159 / 2 ^ t165.toNat) = ji35 := shr_small hji35
                            have H' := Aside0.mk H
                            clear H
                            go_wp2_with (first | (go_at_call 19; (with_reducible refine (sizes_Cell.calls (wrap64 (Int.tmod (IntKind.u64.wrap (a0)) 8)) t165 t166 _ ?side1 A32.out).mono ?_); (case side1 => exact ⟨LAID.below HL_.out (by repeat (first | (with_reducible first | exact HB.out | apply below_alloc | apply pw_below_drewN | apply below_drew1) | exact HB.out))⟩); rintro e w' ⟨rfl, ⟨nd, rfl⟩⟩))
                            go_meet
                            case rel => exact ⟨_, (((Go.bits .and .u64 (ji35) 1) != 1)), (by first | rfl | (simp; done) | (simp only [← hji35] <;> (first | rfl | simp)) | (simp [*]; done)), H', ⟨by have := HJ4.out; have := HK2.out; first | omega | exact Nat.le_refl _⟩, ⟨by repeat (first | (with_reducible first | exact HB.out | apply below_alloc | apply pw_below_drewN | apply below_drew1) | exact HB.out)⟩⟩
                          · rw [if_neg c34] at H
                            exact absurd H (by simp)
                        · rw [if_neg c33] at H
                          have c33b0 : (t166 == t165) = false := beq_eq_false_iff_ne.mpr c33
                          have c33b1 : (t166 != t165) = true := bne_iff_ne.mpr c33
                          have H' := Aside0.mk H
                          clear H
                          go_wp2_with (first | (go_at_call 19; (with_reducible refine (sizes_Cell.calls (wrap64 (Int.tmod (IntKind.u64.wrap (a0)) 8)) t165 t166 _ ?side1 A32.out).mono ?_); (case side1 => exact ⟨LAID.below HL_.out (by repeat (first | (with_reducible first | exact HB.out | apply below_alloc | apply pw_below_drewN | apply below_drew1) | exact HB.out))⟩); rintro e w' ⟨rfl, ⟨nd, rfl⟩⟩))
                          go_meet
                          case rel => exact ⟨_, (true), (by first | rfl | (simp; done) | (simp [*]; done)), H', ⟨by have := HJ4.out; have := HK2.out; first | omega | exact Nat.le_refl _⟩, ⟨by repeat (first | (with_reducible first | exact HB.out | apply below_alloc | apply pw_below_drewN | apply below_drew1) | exact HB.out)⟩⟩
                  · rw [if_neg c29] at H
                    have c29b0 : decide (0 ≤ t165) = false := decide_eq_false c29
                    clear c29
                    (first | rw [c29b0] | (simp only [i64_w, i32_w]; rw [c29b0]) | skip)
                    have H' := Aside0.mk H
                    clear H
                    go_wp2
                    go_meet
                    case rel => exact ⟨_, (false), (by first | rfl | (simp; done) | (simp [*]; done)), H', ⟨by have := HJ4.out; have := HK2.out; first | omega | exact Nat.le_refl _⟩, ⟨by repeat (first | (with_reducible first | exact HB.out | apply below_alloc | apply pw_below_drewN | apply below_drew1) | exact HB.out)⟩⟩
                case rest =>
                  clear HC28
                  try clear c1
                  try clear c2
                  try clear p2
                  try clear c3
                  try clear c5
                  try clear p6
                  try clear c8
                  try clear c9
                  try clear c9b0
                  try clear c9b1
                  try clear c10
                  try clear c10b0
                  try clear c10b1
                  try clear c11
                  try clear c11b0
                  try clear c11b1
                  try clear c12
                  try clear c12b0
                  try clear c13
                  try clear c14
                  try clear c14b0
                  try clear c15
                  try clear c19
                  try clear c24
                  try clear c25
                  try clear c25b0
                  try clear c27
                  try clear c27b0
                  try clear c27b1
                  try clear c27b2
                  try clear c29
                  try clear c29b0
                  try clear c30
                  try clear c30b0
                  try clear c31
                  try clear c31b0
                  try clear c33
                  try clear c33b0
                  try clear c33b1
                  try clear c34
                  try clear c34b0
                  try clear c34b1
                  try clear p2
                  try clear p6
                  obtain ⟨kq, x101_27, rfl, HA, HJ27, HB⟩ := hcut
                  cases kq with
                  | zero => exact absurd HA.out (by simp [windrowlaw05_SizesCovers.j2])
                  | succ kj27 =>
                    have H := HA.out
                    clear HA
                    simp only [windrowlaw05_SizesCovers.j2] at H
                    by_cases c36 : x101_27 = true
                    · subst c36
                      have H1 : (some false) = some r := by rw [if_pos rfl] at H; exact H
                      clear H
                      have H := H1
                      clear H1
                      exact absurd (H.trans (congrArg some HTRUE_.out)) (by simp)
                    · replace c36 := Bool.eq_false_iff.mpr c36
                      subst c36
                      have H1 : (if t165 < 0 then (if t165 = (-1) then (windrowlaw05_SizesCovers.l0 kj27 (wrap64 (Int.tmod (IntKind.u64.wrap (a0)) 8)) t155 t157 t159 (wrap64 (x9_2 + 1))) else (some false)) else (windrowlaw05_SizesCovers.l0 kj27 (wrap64 (Int.tmod (IntKind.u64.wrap (a0)) 8)) t155 t157 t159 (wrap64 (x9_2 + 1)))) = some r := by rw [if_neg (show ¬ (false = true) by decide)] at H; exact H
                      clear H
                      have H := H1
                      clear H1
                      by_cases c37 : t165 < 0
                      · rw [if_pos c37] at H
                        have c37b0 : decide (t165 < 0) = true := decide_eq_true c37
                        clear c37
                        by_cases c38 : t165 = (-1)
                        · rw [if_pos c38] at H
                          have c38b0 : (t165 == (-1)) = true := beq_iff_eq.mpr c38
                          have c38b1 : (t165 != (-1)) = false := bne_eq_false_iff_eq.mpr c38
                          clear c38
                          have H' := Aside0.mk H
                          clear H
                          go_wp2
                          go_roundg kj27
                          case measure => have := HJ4.out; have := HK2.out; have := HJ27.out; omega
                          case rel => exact ⟨(wrap64 (x9_2 + 1)), (by first | rfl | (simp; done) | (simp [*]; done)), H', ⟨by have := HJ4.out; have := HK2.out; have := HJ27.out; omega⟩, ⟨by repeat (first | (with_reducible first | exact HB.out | apply below_alloc | apply pw_below_drewN | apply below_drew1) | exact HB.out)⟩⟩
                        · rw [if_neg c38] at H
                          have c38b0 : (t165 == (-1)) = false := beq_eq_false_iff_ne.mpr c38
                          have c38b1 : (t165 != (-1)) = true := bne_iff_ne.mpr c38
                          exact absurd (H.trans (congrArg some HTRUE_.out)) (by simp)
                      · rw [if_neg c37] at H
                        have c37b0 : decide (t165 < 0) = false := decide_eq_false c37
                        clear c37
                        have H' := Aside0.mk H
                        clear H
                        go_wp2
                        go_roundg kj27
                        case measure => have := HJ4.out; have := HK2.out; have := HJ27.out; omega
                        case rel => exact ⟨(wrap64 (x9_2 + 1)), (by first | rfl | (simp; done) | (simp [*]; done)), H', ⟨by have := HJ4.out; have := HK2.out; have := HJ27.out; omega⟩, ⟨by repeat (first | (with_reducible first | exact HB.out | apply below_alloc | apply pw_below_drewN | apply below_drew1) | exact HB.out)⟩⟩
            · rw [if_neg c25] at H
              have c25b0 : decide (x9_2 < 64) = false := decide_eq_false c25
              clear c25
              by_cases c39 : (wrap64 (t157 * t155)) ≤ 64
              · rw [if_pos c39] at H
                have c39b0 : decide ((wrap64 (t157 * t155)) ≤ 64) = true := decide_eq_true c39
                clear c39
                obtain rfl := Option.some.inj H
                go_wp2
                go_ret
                exact ⟨by first | rfl | (simp [errW_none, errW_some] <;> rfl) | (simp [*, errW_none, errW_some] <;> rfl), by repeat (first | (with_reducible first | exact HB.out | apply below_alloc | apply pw_below_drewN | apply below_drew1) | exact HB.out)⟩
              · rw [if_neg c39] at H
                have c39b0 : decide ((wrap64 (t157 * t155)) ≤ 64) = false := decide_eq_false c39
                clear c39
                exact absurd (H.trans (congrArg some HTRUE_.out)) (by simp)

/-- The pure statement of windrowlaw05_SizesCovers. -/
def windrowlaw05_SizesCovers.Pure : Prop := ∀ (a0 : Int), (Lit.int .i64 a0).wf = true → ∃ k, windrowlaw05_SizesCovers.f k a0 = some true
theorem windrowlaw05_SizesCovers.walk (P : windrowlaw05_SizesCovers.Pure) (a0 : Int) (w : World) (w0 : (Lit.int .i64 a0).wf = true) (HL : LAID w) :
    Calls Tryd.prog 5 #[.int .i64 a0] w fun e w' => e = .returned (.bool true) ∧ Below w.heap.size w w' := by
  obtain ⟨k, h⟩ := P a0 w0
  refine (windrowlaw05_SizesCovers.calls k a0 true w ⟨rfl⟩ ⟨HL⟩ h).mono ?_
  rintro e w' ⟨rfl, hd⟩
  exact ⟨rfl, hd⟩

/-! ### windrowref05_Class: function 20 -/
def windrowref05_Class.l0 : Nat → Int → Int → Option (Int × Int)
  | 0, _, _ => none
  | k + 1, x0, x4 => if x4 < 8 then ((windrowref05_Words.f x4).bind fun bt167 => (if bt167.1 ≥ x0 then (some (x4, 0)) else (windrowref05_Class.l0 k x0 (wrap64 (x4 + 1))))) else (some (0, 3))
def windrowref05_Class.f (k : Nat) (a0 : Int) : Option (Int × Int) := if a0 < 1 then (some (0, 1)) else (windrowref05_Class.l0 k a0 0)
theorem windrowref05_Class.mono_l : ∀ k, (∀ y0 y1, LeO (windrowref05_Class.l0 k y0 y1) (windrowref05_Class.l0 (k + 1) y0 y1))
  | 0 => fun _ _ r h => by simp [windrowref05_Class.l0] at h
  | k + 1 => by
    have ih0 := windrowref05_Class.mono_l k
    · intro y0 y1
      unfold windrowref05_Class.l0
      repeat' first
      | (with_reducible exact ih0 _ _)
      | (with_reducible exact LeO.refl _)
      | (with_reducible exact LeO.none _)
      | (with_reducible refine LeO.ite ?_ ?_)
      | (with_reducible refine LeO.bind ?_ (fun _ => ?_))
      | exact ih0 _ _
      | exact LeO.none _
      | refine LeO.ite ?_ ?_
      | refine LeO.bind ?_ (fun _ => ?_)
theorem windrowref05_Class.mono : ∀ a0 k, LeO (windrowref05_Class.f k a0) (windrowref05_Class.f (k + 1) a0) := by
  intro a0 k
  have ih0 := windrowref05_Class.mono_l k
  unfold windrowref05_Class.f
  repeat' first
      | (with_reducible exact ih0 _ _)
      | (with_reducible exact LeO.refl _)
      | (with_reducible exact LeO.none _)
      | (with_reducible refine LeO.ite ?_ ?_)
      | (with_reducible refine LeO.bind ?_ (fun _ => ?_))
      | exact ih0 _ _
      | exact LeO.none _
      | refine LeO.ite ?_ ?_
      | refine LeO.bind ?_ (fun _ => ?_)
set_option maxHeartbeats 8000000 in
set_option maxRecDepth 100000 in
theorem windrowref05_Class.calls (k : Nat) (a0 : Int) (r1 : Int) (r2 : Int) (w : World) (h : windrowref05_Class.f k a0 = some (r1, r2)) :
    Calls Tryd.prog 20 #[.int .i64 a0] w fun e w' => e = .returned (.tuple #[.int .i64 r1, .int .i64 r2]) ∧ Below w.heap.size w w' := by
  have HB := Aside0.mk (Below.refl w.heap.size w)
  have H : (if a0 < 1 then (some (0, 1)) else (windrowref05_Class.l0 k a0 0)) = some (r1, r2) := h
  clear h
  by_cases c2 : a0 < 1
  · rw [if_pos c2] at H
    have c2b0 : decide (a0 < 1) = true := decide_eq_true c2
    clear c2
    simp only [Option.some.injEq, Prod.mk.injEq] at H
    obtain ⟨rfl, rfl⟩ := H
    go_enter Tryd.func20, Tryd.ntmps20
    go_wp2
    go_ret2
    exact ⟨by first | rfl | (simp [errW_none, errW_some] <;> rfl) | (simp [*, errW_none, errW_some] <;> rfl), by repeat (first | (with_reducible first | exact HB.out | apply below_alloc | apply pw_below_drewN | apply below_drew1) | exact HB.out)⟩
  · rw [if_neg c2] at H
    have c2b0 : decide (a0 < 1) = false := decide_eq_false c2
    clear c2
    have H' := Aside0.mk H
    clear H
    go_enter Tryd.func20, Tryd.ntmps20
    go_wp2
    go_loopg [4] k (fun kq v4 w' => ∃ (x4_1 : Int), v4 = .int .i64 x4_1 ∧ Aside0 (windrowref05_Class.l0 kq a0 x4_1 = some (r1, r2)) ∧ Aside0 (kq ≤ k) ∧ Aside0 (Below w.heap.size w w'))
    case atStart => exact ⟨(0), (by first | rfl | (simp; done) | (simp [*]; done)), H', ⟨Nat.le_refl _⟩, ⟨by repeat (first | (with_reducible first | exact HB.out | apply below_alloc | apply pw_below_drewN | apply below_drew1) | exact HB.out)⟩⟩
    case round =>
      clear H'
      try clear c2
      try clear c2b0
      try clear p2
      obtain ⟨x4_1, rfl, HA, HK1, HB⟩ := hrel
      cases gk with
      | zero => exact absurd HA.out (by simp [windrowref05_Class.l0])
      | succ k1 =>
        have H := HA.out
        clear HA
        simp only [windrowref05_Class.l0] at H
        by_cases c3 : x4_1 < 8
        · rw [if_pos c3] at H
          have c3b0 : decide (x4_1 < 8) = true := decide_eq_true c3
          clear c3
          replace H := Option.bind_eq_some_iff.mp H
          obtain ⟨⟨t167, t168⟩, A40, H⟩ := H
          replace H : (if t167 ≥ a0 then (some (x4_1, 0)) else (windrowref05_Class.l0 k1 a0 (wrap64 (x4_1 + 1)))) = some (r1, r2) := H
          have A4 := Aside0.mk A40
          clear A40
          by_cases c5 : t167 ≥ a0
          · rw [if_pos c5] at H
            have c5b0 : decide (a0 ≤ t167) = true := decide_eq_true c5
            clear c5
            simp only [Option.some.injEq, Prod.mk.injEq] at H
            obtain ⟨rfl, rfl⟩ := H
            go_wp2_with (first | ((with_reducible refine gate_callee (f := 11) rfl ?_); refine goesL_ (some 15) rfl rfl Tryd.func11 (by kernel_rfl) rfl #[.int .i64 x4_1] rfl (by (try simp only [List.map_toArray, List.map_cons, List.map_nil]); first | done | rfl | (simp only [List.length_drop, List.length_take]; rfl)) ?_; (with_reducible refine (windrowref05_Words.calls x4_1 t167 t168 _ A4.out).mono ?_); rintro e w6 ⟨rfl, hb⟩; refine ⟨_, rfl, ?_⟩; have n0_ := Aside0.mk (below_step (by repeat (first | (with_reducible first | exact HB.out | apply below_alloc | apply pw_below_drewN | apply below_drew1) | exact HB.out)) hb); clear HB; have HB := n0_; clear n0_; (try clear hb); (try clear hb2); (try clear hk); (try clear hi)))
            go_ret2
            exact ⟨by first | rfl | (simp [errW_none, errW_some] <;> rfl) | (simp [*, errW_none, errW_some] <;> rfl), by repeat (first | (with_reducible first | exact HB.out | apply below_alloc | apply pw_below_drewN | apply below_drew1) | exact HB.out)⟩
          · rw [if_neg c5] at H
            have c5b0 : decide (a0 ≤ t167) = false := decide_eq_false c5
            clear c5
            have H' := Aside0.mk H
            clear H
            go_wp2_with (first | ((with_reducible refine gate_callee (f := 11) rfl ?_); refine goesL_ (some 15) rfl rfl Tryd.func11 (by kernel_rfl) rfl #[.int .i64 x4_1] rfl (by (try simp only [List.map_toArray, List.map_cons, List.map_nil]); first | done | rfl | (simp only [List.length_drop, List.length_take]; rfl)) ?_; (with_reducible refine (windrowref05_Words.calls x4_1 t167 t168 _ A4.out).mono ?_); rintro e w7 ⟨rfl, hb⟩; refine ⟨_, rfl, ?_⟩; have n0_ := Aside0.mk (below_step (by repeat (first | (with_reducible first | exact HB.out | apply below_alloc | apply pw_below_drewN | apply below_drew1) | exact HB.out)) hb); clear HB; have HB := n0_; clear n0_; (try clear hb); (try clear hb2); (try clear hk); (try clear hi)))
            go_roundg k1
            case measure => have := HK1.out; omega
            case rel => exact ⟨(wrap64 (x4_1 + 1)), (by first | rfl | (simp; done) | (simp [*]; done)), H', ⟨by have := HK1.out; omega⟩, ⟨by repeat (first | (with_reducible first | exact HB.out | apply below_alloc | apply pw_below_drewN | apply below_drew1) | exact HB.out)⟩⟩
        · rw [if_neg c3] at H
          have c3b0 : decide (x4_1 < 8) = false := decide_eq_false c3
          clear c3
          simp only [Option.some.injEq, Prod.mk.injEq] at H
          obtain ⟨rfl, rfl⟩ := H
          go_wp2
          go_ret2
          exact ⟨by first | rfl | (simp [errW_none, errW_some] <;> rfl) | (simp [*, errW_none, errW_some] <;> rfl), by repeat (first | (with_reducible first | exact HB.out | apply below_alloc | apply pw_below_drewN | apply below_drew1) | exact HB.out)⟩

/-! ### windrowref05_Pages: function 22 -/
def windrowref05_Pages.l0 : Nat → Int → Int → Option (Int × Int)
  | 0, _, _ => none
  | k + 1, x0, x4 => if (wrap64 (x4 * 64)) < x0 then (windrowref05_Pages.l0 k x0 (wrap64 (x4 + 1))) else (some (x4, 0))
def windrowref05_Pages.f (k : Nat) (a0 : Int) : Option (Int × Int) := if a0 < 1 then (some (0, 1)) else (if a0 > 256 then (some (0, 3)) else (if a0 ≤ 32 then (some (0, 0)) else (windrowref05_Pages.l0 k a0 1)))
theorem windrowref05_Pages.mono_l : ∀ k, (∀ y0 y1, LeO (windrowref05_Pages.l0 k y0 y1) (windrowref05_Pages.l0 (k + 1) y0 y1))
  | 0 => fun _ _ r h => by simp [windrowref05_Pages.l0] at h
  | k + 1 => by
    have ih0 := windrowref05_Pages.mono_l k
    · intro y0 y1
      unfold windrowref05_Pages.l0
      repeat' first
      | (with_reducible exact ih0 _ _)
      | (with_reducible exact LeO.refl _)
      | (with_reducible exact LeO.none _)
      | (with_reducible refine LeO.ite ?_ ?_)
      | (with_reducible refine LeO.bind ?_ (fun _ => ?_))
      | exact ih0 _ _
      | exact LeO.none _
      | refine LeO.ite ?_ ?_
      | refine LeO.bind ?_ (fun _ => ?_)
theorem windrowref05_Pages.mono : ∀ a0 k, LeO (windrowref05_Pages.f k a0) (windrowref05_Pages.f (k + 1) a0) := by
  intro a0 k
  have ih0 := windrowref05_Pages.mono_l k
  unfold windrowref05_Pages.f
  repeat' first
      | (with_reducible exact ih0 _ _)
      | (with_reducible exact LeO.refl _)
      | (with_reducible exact LeO.none _)
      | (with_reducible refine LeO.ite ?_ ?_)
      | (with_reducible refine LeO.bind ?_ (fun _ => ?_))
      | exact ih0 _ _
      | exact LeO.none _
      | refine LeO.ite ?_ ?_
      | refine LeO.bind ?_ (fun _ => ?_)
set_option maxHeartbeats 8000000 in
set_option maxRecDepth 100000 in
theorem windrowref05_Pages.calls (k : Nat) (a0 : Int) (r1 : Int) (r2 : Int) (w : World) (h : windrowref05_Pages.f k a0 = some (r1, r2)) :
    Calls Tryd.prog 22 #[.int .i64 a0] w fun e w' => e = .returned (.tuple #[.int .i64 r1, .int .i64 r2]) ∧ Drawn0 w w' := by
  have H : (if a0 < 1 then (some (0, 1)) else (if a0 > 256 then (some (0, 3)) else (if a0 ≤ 32 then (some (0, 0)) else (windrowref05_Pages.l0 k a0 1)))) = some (r1, r2) := h
  clear h
  by_cases c2 : a0 < 1
  · rw [if_pos c2] at H
    have c2b0 : decide (a0 < 1) = true := decide_eq_true c2
    clear c2
    simp only [Option.some.injEq, Prod.mk.injEq] at H
    obtain ⟨rfl, rfl⟩ := H
    go_enter Tryd.func22, Tryd.ntmps22
    go_wp2
    go_ret2
    exact ⟨by first | rfl | (simp; done) | (simp [*]; done), by repeat (first | exact Drawn0.refl _ | apply Drawn0.step)⟩
  · rw [if_neg c2] at H
    have c2b0 : decide (a0 < 1) = false := decide_eq_false c2
    clear c2
    by_cases c3 : a0 > 256
    · rw [if_pos c3] at H
      have c3b0 : decide (256 < a0) = true := decide_eq_true c3
      clear c3
      simp only [Option.some.injEq, Prod.mk.injEq] at H
      obtain ⟨rfl, rfl⟩ := H
      go_enter Tryd.func22, Tryd.ntmps22
      go_wp2
      go_ret2
      exact ⟨by first | rfl | (simp; done) | (simp [*]; done), by repeat (first | exact Drawn0.refl _ | apply Drawn0.step)⟩
    · rw [if_neg c3] at H
      have c3b0 : decide (256 < a0) = false := decide_eq_false c3
      clear c3
      by_cases c4 : a0 ≤ 32
      · rw [if_pos c4] at H
        have c4b0 : decide (a0 ≤ 32) = true := decide_eq_true c4
        clear c4
        simp only [Option.some.injEq, Prod.mk.injEq] at H
        obtain ⟨rfl, rfl⟩ := H
        go_enter Tryd.func22, Tryd.ntmps22
        go_wp2
        go_ret2
        exact ⟨by first | rfl | (simp; done) | (simp [*]; done), by repeat (first | exact Drawn0.refl _ | apply Drawn0.step)⟩
      · rw [if_neg c4] at H
        have c4b0 : decide (a0 ≤ 32) = false := decide_eq_false c4
        clear c4
        have H' := Aside0.mk H
        clear H
        go_enter Tryd.func22, Tryd.ntmps22
        go_wp2
        go_loopg [4] k (fun kq v4 w' => ∃ (x4_1 : Int), v4 = .int .i64 x4_1 ∧ Aside0 (windrowref05_Pages.l0 kq a0 x4_1 = some (r1, r2)) ∧ Aside0 (kq ≤ k) ∧ Drawn0 w w')
        case atStart => exact ⟨(1), (by first | rfl | (simp; done) | (simp [*]; done)), H', ⟨Nat.le_refl _⟩, by repeat (first | exact Drawn0.refl _ | apply Drawn0.step)⟩
        case round =>
          clear H'
          try clear c2
          try clear c2b0
          try clear p2
          try clear c3
          try clear c3b0
          try clear c4
          try clear c4b0
          obtain ⟨x4_1, rfl, HA, HK1, ⟨m1, rfl⟩⟩ := hrel
          cases gk with
          | zero => exact absurd HA.out (by simp [windrowref05_Pages.l0])
          | succ k1 =>
            have H := HA.out
            clear HA
            simp only [windrowref05_Pages.l0] at H
            by_cases c5 : (wrap64 (x4_1 * 64)) < a0
            · rw [if_pos c5] at H
              have c5b0 : decide ((wrap64 (x4_1 * 64)) < a0) = true := decide_eq_true c5
              clear c5
              have H' := Aside0.mk H
              clear H
              go_wp2
              go_roundg k1
              case measure => have := HK1.out; omega
              case rel => exact ⟨(wrap64 (x4_1 + 1)), (by first | rfl | (simp; done) | (simp [*]; done)), H', ⟨by have := HK1.out; omega⟩, by repeat (first | exact Drawn0.refl _ | apply Drawn0.step)⟩
            · rw [if_neg c5] at H
              have c5b0 : decide ((wrap64 (x4_1 * 64)) < a0) = false := decide_eq_false c5
              clear c5
              simp only [Option.some.injEq, Prod.mk.injEq] at H
              obtain ⟨rfl, rfl⟩ := H
              go_wp2
              go_ret2
              exact ⟨by first | rfl | (simp; done) | (simp [*]; done), by repeat (first | exact Drawn0.refl _ | apply Drawn0.step)⟩

/-! ### windrowref05_Rounds: function 24 -/
def windrowref05_Rounds.f (k : Nat) (a0 : Int) : Option (Int × Int) := (windrowref05_Pages.f k a0).bind fun bt169 => (if bt169.2 = 0 then (if bt169.1 > 0 then (some (wrap64 (bt169.1 * 64), 0)) else ((windrowref05_Class.f k a0).bind fun bt171 => ((windrowref05_Words.f bt171.1).bind fun bt173 => (some (bt173.1, 0))))) else (some (0, bt169.2)))
theorem windrowref05_Rounds.mono : ∀ a0 k, LeO (windrowref05_Rounds.f k a0) (windrowref05_Rounds.f (k + 1) a0) := by
  intro a0 k
  unfold windrowref05_Rounds.f
  repeat' first
      | (with_reducible exact windrowref05_Class.mono _ _)
      | (with_reducible exact windrowref05_Pages.mono _ _)
      | (with_reducible exact LeO.refl _)
      | (with_reducible exact LeO.none _)
      | (with_reducible refine LeO.ite ?_ ?_)
      | (with_reducible refine LeO.bind ?_ (fun _ => ?_))
      | exact windrowref05_Class.mono _ _
      | exact windrowref05_Pages.mono _ _
      | exact LeO.none _
      | refine LeO.ite ?_ ?_
      | refine LeO.bind ?_ (fun _ => ?_)
set_option maxHeartbeats 8000000 in
set_option maxRecDepth 100000 in
theorem windrowref05_Rounds.calls (k : Nat) (a0 : Int) (r1 : Int) (r2 : Int) (w : World) (h : windrowref05_Rounds.f k a0 = some (r1, r2)) :
    Calls Tryd.prog 24 #[.int .i64 a0] w fun e w' => e = .returned (.tuple #[.int .i64 r1, .int .i64 r2]) ∧ Below w.heap.size w w' := by
  have HB := Aside0.mk (Below.refl w.heap.size w)
  have H : ((windrowref05_Pages.f k a0).bind fun bt169 => (if bt169.2 = 0 then (if bt169.1 > 0 then (some (wrap64 (bt169.1 * 64), 0)) else ((windrowref05_Class.f k a0).bind fun bt171 => ((windrowref05_Words.f bt171.1).bind fun bt173 => (some (bt173.1, 0))))) else (some (0, bt169.2)))) = some (r1, r2) := h
  clear h
  replace H := Option.bind_eq_some_iff.mp H
  obtain ⟨⟨t169, t170⟩, A20, H⟩ := H
  replace H : (if t170 = 0 then (if t169 > 0 then (some (wrap64 (t169 * 64), 0)) else ((windrowref05_Class.f k a0).bind fun bt171 => ((windrowref05_Words.f bt171.1).bind fun bt173 => (some (bt173.1, 0))))) else (some (0, t170))) = some (r1, r2) := H
  have A2 := Aside0.mk A20
  clear A20
  by_cases c3 : t170 = 0
  · rw [if_pos c3] at H
    have c3b0 : (t170 == 0) = true := beq_iff_eq.mpr c3
    have c3b1 : (t170 != 0) = false := bne_eq_false_iff_eq.mpr c3
    clear c3
    by_cases c4 : t169 > 0
    · rw [if_pos c4] at H
      have c4b0 : decide (0 < t169) = true := decide_eq_true c4
      clear c4
      simp only [Option.some.injEq, Prod.mk.injEq] at H
      obtain ⟨rfl, rfl⟩ := H
      go_enter Tryd.func24, Tryd.ntmps24
      go_wp2_with (first | ((with_reducible refine gate_callee (f := 22) rfl ?_); refine goesL_ (some 12) rfl rfl Tryd.func22 (by kernel_rfl) rfl #[.int .i64 a0] rfl (by (try simp only [List.map_toArray, List.map_cons, List.map_nil]); first | done | rfl | (simp only [List.length_drop, List.length_take]; rfl)) ?_; (with_reducible refine (windrowref05_Pages.calls k a0 t169 t170 _ A2.out).mono ?_); rintro e w' ⟨rfl, ⟨nd, rfl⟩⟩; refine ⟨_, rfl, ?_⟩))
      go_ret2
      exact ⟨by first | rfl | (simp [errW_none, errW_some] <;> rfl) | (simp [*, errW_none, errW_some] <;> rfl), by repeat (first | (with_reducible first | exact HB.out | apply below_alloc | apply pw_below_drewN | apply below_drew1) | exact HB.out)⟩
    · rw [if_neg c4] at H
      have c4b0 : decide (0 < t169) = false := decide_eq_false c4
      clear c4
      replace H := Option.bind_eq_some_iff.mp H
      obtain ⟨⟨t171, t172⟩, A50, H⟩ := H
      replace H : ((windrowref05_Words.f t171).bind fun bt173 => (some (bt173.1, 0))) = some (r1, r2) := H
      have A5 := Aside0.mk A50
      clear A50
      replace H := Option.bind_eq_some_iff.mp H
      obtain ⟨⟨t173, t174⟩, A60, H⟩ := H
      replace H : (some (t173, 0)) = some (r1, r2) := H
      have A6 := Aside0.mk A60
      clear A60
      simp only [Option.some.injEq, Prod.mk.injEq] at H
      obtain ⟨rfl, rfl⟩ := H
      go_enter Tryd.func24, Tryd.ntmps24
      go_wp2_with (first | ((with_reducible refine gate_callee (f := 22) rfl ?_); refine goesL_ (some 12) rfl rfl Tryd.func22 (by kernel_rfl) rfl #[.int .i64 a0] rfl (by (try simp only [List.map_toArray, List.map_cons, List.map_nil]); first | done | rfl | (simp only [List.length_drop, List.length_take]; rfl)) ?_; (with_reducible refine (windrowref05_Pages.calls k a0 t169 t170 _ A2.out).mono ?_); rintro e w' ⟨rfl, ⟨nd, rfl⟩⟩; refine ⟨_, rfl, ?_⟩) | ((with_reducible refine gate_callee (f := 20) rfl ?_); refine goesL_ (some 24) rfl rfl Tryd.func20 (by kernel_rfl) rfl #[.int .i64 a0] rfl (by (try simp only [List.map_toArray, List.map_cons, List.map_nil]); first | done | rfl | (simp only [List.length_drop, List.length_take]; rfl)) ?_; (with_reducible refine (windrowref05_Class.calls k a0 t171 t172 _ A5.out).mono ?_); rintro e w7 ⟨rfl, hb⟩; refine ⟨_, rfl, ?_⟩; have n0_ := Aside0.mk (below_step (by repeat (first | (with_reducible first | exact HB.out | apply below_alloc | apply pw_below_drewN | apply below_drew1) | exact HB.out)) hb); clear HB; have HB := n0_; clear n0_; (try clear hb); (try clear hb2); (try clear hk); (try clear hi)) | ((with_reducible refine gate_callee (f := 11) rfl ?_); refine goesL_ (some 29) rfl rfl Tryd.func11 (by kernel_rfl) rfl #[.int .i64 t171] rfl (by (try simp only [List.map_toArray, List.map_cons, List.map_nil]); first | done | rfl | (simp only [List.length_drop, List.length_take]; rfl)) ?_; (with_reducible refine (windrowref05_Words.calls t171 t173 t174 _ A6.out).mono ?_); rintro e w8 ⟨rfl, hb⟩; refine ⟨_, rfl, ?_⟩; have n0_ := Aside0.mk (below_step (by repeat (first | (with_reducible first | exact HB.out | apply below_alloc | apply pw_below_drewN | apply below_drew1) | exact HB.out)) hb); clear HB; have HB := n0_; clear n0_; (try clear hb); (try clear hb2); (try clear hk); (try clear hi)))
      go_ret2
      exact ⟨by first | rfl | (simp [errW_none, errW_some] <;> rfl) | (simp [*, errW_none, errW_some] <;> rfl), by repeat (first | (with_reducible first | exact HB.out | apply below_alloc | apply pw_below_drewN | apply below_drew1) | exact HB.out)⟩
  · rw [if_neg c3] at H
    have c3b0 : (t170 == 0) = false := beq_eq_false_iff_ne.mpr c3
    have c3b1 : (t170 != 0) = true := bne_iff_ne.mpr c3
    simp only [Option.some.injEq, Prod.mk.injEq] at H
    obtain ⟨rfl, rfl⟩ := H
    go_enter Tryd.func24, Tryd.ntmps24
    go_wp2_with (first | ((with_reducible refine gate_callee (f := 22) rfl ?_); refine goesL_ (some 12) rfl rfl Tryd.func22 (by kernel_rfl) rfl #[.int .i64 a0] rfl (by (try simp only [List.map_toArray, List.map_cons, List.map_nil]); first | done | rfl | (simp only [List.length_drop, List.length_take]; rfl)) ?_; (with_reducible refine (windrowref05_Pages.calls k a0 t169 t170 _ A2.out).mono ?_); rintro e w' ⟨rfl, ⟨nd, rfl⟩⟩; refine ⟨_, rfl, ?_⟩))
    go_ret2
    exact ⟨by first | rfl | (simp [errW_none, errW_some] <;> rfl) | (simp [*, errW_none, errW_some] <;> rfl), by repeat (first | (with_reducible first | exact HB.out | apply below_alloc | apply pw_below_drewN | apply below_drew1) | exact HB.out)⟩

end Go.Proofs.YtjakjaohgndebaaDoor.PAll

-- Written by a program of the prover's (mp.py). Not trusted: Lean checks it.
import Derived.Test.YtmbgfmdmihmgdaaPAllx0
import Derived.Test.YtmbgfmdmihmgdaaPAllx1
import Derived.Test.YtmbgfmdmihmgdaaPAllx2
import Derived.Test.YtmbgfmdmihmgdaaPAllx3
import Derived.Test.YtmbgfmdmihmgdaaPAllx4
import Derived.Test.YtmbgfmdmihmgdaaShr
namespace Go.Proofs.Ytmbgfmdmihmgdaa.PAll
open Go.RowKit Go.Proofs.YtmbgfmdmihmgdaaW.PrintWords Go.Proofs.YtmbgfmdmihmgdaaW.PrintLast Go.Proofs.YtmbgfmdmihmgdaaW.PrintMore
attribute [local go_sem] max2_int min2_int max_two min_two max_three min_three max_four min_four   -- for this text's walks alone
set_option linter.unusedVariables false
set_option linter.unusedSimpArgs false

attribute [local go_sem high] eqA52
/-! ### windrowlaw06_LayoutApart: function 7 -/
mutual
def windrowlaw06_LayoutApart.j0 : Nat → Int → Int → Bool → Int → Int → Int → Option (Bool)
  | 0, _, _, _, _, _, _ => none
  | k + 1, x6, x7, x53, x174000, x174001, x174002 => if x53 = true then (some false) else ((layout_Plan_Cells.f x174000 x174001 x174002).bind fun t176 => (if (IntKind.u64.wrap (t176)) = 0 then (none) else ((layout_Plan_Cells.f x174000 x174001 x174002).bind fun t177 => (if (IntKind.u64.wrap (t177)) = 0 then (none) else ((layout_Plan_Find.f k x174000 x174001 x174002 (wrap64 (Int.tmod (IntKind.u64.wrap (x6)) (IntKind.u64.wrap (t176))))).bind fun bt178 => ((layout_Plan_Find.f k x174000 x174001 x174002 (wrap64 (Int.tmod (IntKind.u64.wrap (x7)) (IntKind.u64.wrap (t177))))).bind fun bt181 => (if (bt178.1 == bt181.1 && (bt178.2.1 == bt181.2.1 && (bt178.2.2 == bt181.2.2))) = true then (if (!(bt178.1 == 0) || (!(bt178.2.1 == 0) || (!(bt178.2.2 == 0)))) = true then (windrowlaw06_LayoutApart.j1 k (wrap64 (Int.tmod (IntKind.u64.wrap (x6)) (IntKind.u64.wrap (t176)))) ((wrap64 (Int.tmod (IntKind.u64.wrap (x6)) (IntKind.u64.wrap (t176)))) != (wrap64 (Int.tmod (IntKind.u64.wrap (x7)) (IntKind.u64.wrap (t177))))) x174000 x174001 x174002 bt178.1 bt178.2.1 bt178.2.2) else (windrowlaw06_LayoutApart.j1 k (wrap64 (Int.tmod (IntKind.u64.wrap (x6)) (IntKind.u64.wrap (t176)))) false x174000 x174001 x174002 bt178.1 bt178.2.1 bt178.2.2)) else (windrowlaw06_LayoutApart.j1 k (wrap64 (Int.tmod (IntKind.u64.wrap (x6)) (IntKind.u64.wrap (t176)))) false x174000 x174001 x174002 bt178.1 bt178.2.1 bt178.2.2))))))))
def windrowlaw06_LayoutApart.j1 : Nat → Int → Bool → Int → Int → Int → Int → Int → Int → Option (Bool)
  | 0, _, _, _, _, _, _, _, _ => none
  | k + 1, x6, x86, x174000, x174001, x174002, x185000, x185001, x185002 => if x86 = true then (some false) else (if x185000 = 0 then (if x6 < 8 then (some true) else ((layout_Plan_Base.f x174000 x174001 x174002).bind fun t186 => (some (decide (x6 < t186))))) else (if x185000 = 1 then (some (x185001 == x6)) else (if x185000 = 2 then ((layout_Plan_Global.f x174000 x174001 x174002 x185001).bind fun t187 => (some (t187 == x6))) else (if x185000 = 3 then ((layout_Plan_Status.f x174000 x174001 x174002 x185001).bind fun t188 => ((layout_Plan_Ack.f x174000 x174001 x174002 x185001).bind fun t189 => ((layout_Plan_Result.f x174000 x174001 x174002 x185001).bind fun t190 => ((layout_Plan_Head.f x174000 x174001 x174002 x185001).bind fun t191 => ((layout_Plan_Tail.f x174000 x174001 x174002 x185001).bind fun t192 => ((some (([t188, t189, t190, t191, t192] : List Int) : List Int)).bind fun y193 => (if x185002 ≥ 0 then (if x185002 < 5 then (if 0 ≤ x185002 then (if x185002 < (y193.length : Int) then (some ((rd y193 x185002) == x6)) else (none)) else (none)) else (some ((-1) == x6))) else (some ((-1) == x6))))))))) else (if x185000 = 4 then ((layout_Plan_Slot.f x174000 x174001 x174002 x185001 (IntKind.u64.wrap (x185002))).bind fun t197 => (some (t197 == x6))) else (if x185000 = 5 then ((layout_Plan_Entry.f x174000 x174001 x174002 x185001).bind fun t198 => (some (t198 == x6))) else (if x185000 = 6 then ((layout_Plan_Alloc.f x174000 x174001 x174002 x185001).bind fun t199 => (some (t199 == x6))) else (if x185000 = 7 then ((layout_Plan_Mark.f x174000 x174001 x174002 x185001).bind fun t200 => (some (t200 == x6))) else (if x185000 = 8 then ((layout_Plan_Addr.f x174000 x174001 x174002 x185001 x185002).bind fun t201 => (some (t201 == x6))) else (some false))))))))))
end
def windrowlaw06_LayoutApart.f (k : Nat) (a0_0 : Int) (a0_1 : Int) (a0_2 : Int) (a0_3 : Int) (a0_4 : Int) : Option (Bool) := (layout_New.f (wrap64 (1 + (wrap64 (Int.tmod (IntKind.u64.wrap (a0_0)) 32)))) (wrap64 (1 + (wrap64 (Int.tmod (IntKind.u64.wrap (a0_1)) 6)))) (wrap64 (1 + (wrap64 (Int.tmod (IntKind.u64.wrap (a0_2)) 16))))).bind fun bt169 => ((windrowlaw06_laid.f).bind fun t174 => (if t174 = true then (if bt169.2.2.2 = 0 then ((layout_Plan_Cells.f bt169.1 bt169.2.1 bt169.2.2.1).bind fun t175 => (windrowlaw06_LayoutApart.j0 k a0_3 a0_4 (decide (t175 < 64)) bt169.1 bt169.2.1 bt169.2.2.1)) else (windrowlaw06_LayoutApart.j0 k a0_3 a0_4 true bt169.1 bt169.2.1 bt169.2.2.1)) else (windrowlaw06_LayoutApart.j0 k a0_3 a0_4 true bt169.1 bt169.2.1 bt169.2.2.1)))
theorem windrowlaw06_LayoutApart.mono_l : ∀ k, (∀ y0 y1 y2 y3 y4 y5, LeO (windrowlaw06_LayoutApart.j0 k y0 y1 y2 y3 y4 y5) (windrowlaw06_LayoutApart.j0 (k + 1) y0 y1 y2 y3 y4 y5)) ∧ (∀ y0 y1 y2 y3 y4 y5 y6 y7, LeO (windrowlaw06_LayoutApart.j1 k y0 y1 y2 y3 y4 y5 y6 y7) (windrowlaw06_LayoutApart.j1 (k + 1) y0 y1 y2 y3 y4 y5 y6 y7))
  | 0 => ⟨fun _ _ _ _ _ _ r h => by simp [windrowlaw06_LayoutApart.j0] at h, fun _ _ _ _ _ _ _ _ r h => by simp [windrowlaw06_LayoutApart.j1] at h⟩
  | k + 1 => by
    obtain ⟨ih0, ih1⟩ := windrowlaw06_LayoutApart.mono_l k
    refine ⟨?_, ?_⟩
    · intro y0 y1 y2 y3 y4 y5
      unfold windrowlaw06_LayoutApart.j0
      repeat' first
      | (with_reducible exact ih0 _ _ _ _ _ _)
      | (with_reducible exact ih1 _ _ _ _ _ _ _ _)
      | (with_reducible exact layout_Plan_Find.mono _ _ _ _ _)
      | (with_reducible exact LeO.refl _)
      | (with_reducible exact LeO.none _)
      | (with_reducible refine LeO.ite ?_ ?_)
      | (with_reducible refine LeO.bind ?_ (fun _ => ?_))
      | exact ih0 _ _ _ _ _ _
      | exact ih1 _ _ _ _ _ _ _ _
      | exact layout_Plan_Find.mono _ _ _ _ _
      | exact LeO.none _
      | refine LeO.ite ?_ ?_
      | refine LeO.bind ?_ (fun _ => ?_)
    · intro y0 y1 y2 y3 y4 y5 y6 y7
      unfold windrowlaw06_LayoutApart.j1
      repeat' first
      | (with_reducible exact ih0 _ _ _ _ _ _)
      | (with_reducible exact ih1 _ _ _ _ _ _ _ _)
      | (with_reducible exact layout_Plan_Find.mono _ _ _ _ _)
      | (with_reducible exact LeO.refl _)
      | (with_reducible exact LeO.none _)
      | (with_reducible refine LeO.ite ?_ ?_)
      | (with_reducible refine LeO.bind ?_ (fun _ => ?_))
      | exact ih0 _ _ _ _ _ _
      | exact ih1 _ _ _ _ _ _ _ _
      | exact layout_Plan_Find.mono _ _ _ _ _
      | exact LeO.none _
      | refine LeO.ite ?_ ?_
      | refine LeO.bind ?_ (fun _ => ?_)
theorem windrowlaw06_LayoutApart.mono : ∀ a0 a1 a2 a3 a4 k, LeO (windrowlaw06_LayoutApart.f k a0 a1 a2 a3 a4) (windrowlaw06_LayoutApart.f (k + 1) a0 a1 a2 a3 a4) := by
  intro a0 a1 a2 a3 a4 k
  obtain ⟨ih0, ih1⟩ := windrowlaw06_LayoutApart.mono_l k
  unfold windrowlaw06_LayoutApart.f
  repeat' first
      | (with_reducible exact ih0 _ _ _ _ _ _)
      | (with_reducible exact ih1 _ _ _ _ _ _ _ _)
      | (with_reducible exact layout_Plan_Find.mono _ _ _ _ _)
      | (with_reducible exact LeO.refl _)
      | (with_reducible exact LeO.none _)
      | (with_reducible refine LeO.ite ?_ ?_)
      | (with_reducible refine LeO.bind ?_ (fun _ => ?_))
      | exact ih0 _ _ _ _ _ _
      | exact ih1 _ _ _ _ _ _ _ _
      | exact layout_Plan_Find.mono _ _ _ _ _
      | exact LeO.none _
      | refine LeO.ite ?_ ?_
      | refine LeO.bind ?_ (fun _ => ?_)
def windrowlaw06_LayoutApart.T1 : Bool × List (List Nat × List Nat) := (true, [([], []), ([0], [0]), ([], []), ([2], [2]), ([], []), ([4], [4]), ([], []), ([6], [6]), ([], []), ([8], [8]), ([1, 0, 1], [1]), ([3, 10, 0, 1, 2, 3, 10], [3]), ([5, 11, 0, 1, 2, 3, 4, 5, 10, 11], [5]), ([7, 12, 0, 1, 2, 3, 4, 5, 6, 7, 10, 11, 12], [7]), ([9, 13, 0, 1, 2, 3, 4, 5, 6, 7, 8, 9, 10, 11, 12, 13], [9])])
def windrowlaw06_LayoutApart.B1 : List Nat := [0, 1, 0, 4, 0, 16, 0, 64, 0, 256, 3, 1039, 3135, 7423, 16383]
theorem windrowlaw06_LayoutApart.tab1 : rtab .any (opsOf Try.f7 1) = windrowlaw06_LayoutApart.T1 := by kernel_rfl
theorem windrowlaw06_LayoutApart.bits1 : waitsOk windrowlaw06_LayoutApart.T1.2 windrowlaw06_LayoutApart.B1 = true := by kernel_rfl
def windrowlaw06_LayoutApart.T5 : Bool × List (List Nat × List Nat) := (true, [([], []), ([0], [0]), ([], []), ([2], [2]), ([3], [3]), ([1, 4], [1, 4]), ([5], [5]), ([], []), ([7], [7]), ([], []), ([9, 3], [9]), ([10], [10]), ([8, 11], [8, 11]), ([12], [12]), ([6, 10, 0, 1, 2, 3, 4, 5, 6], [0, 6]), ([13, 14, 0, 1, 2, 3, 4, 5, 6, 7, 8, 9, 10, 11, 12, 13, 14], [7, 13])])
def windrowlaw06_LayoutApart.B5 : List Nat := [0, 1, 0, 4, 12, 31, 63, 0, 128, 0, 524, 1548, 3980, 8076, 1663, 32767]
theorem windrowlaw06_LayoutApart.tab5 : rtab .any (opsOf Try.f7 5) = windrowlaw06_LayoutApart.T5 := by kernel_rfl
theorem windrowlaw06_LayoutApart.bits5 : waitsOk windrowlaw06_LayoutApart.T5.2 windrowlaw06_LayoutApart.B5 = true := by kernel_rfl
def windrowlaw06_LayoutApart.T6 : Bool × List (List Nat × List Nat) := (true, [([], []), ([], []), ([0, 1], [0, 1]), ([], []), ([], []), ([3, 4, 2], [3, 4]), ([], []), ([], []), ([6, 2, 5, 0, 1, 2, 6, 7], [2, 6]), ([7, 5, 8, 0, 1, 2, 3, 4, 5, 6, 7, 8], [5, 7])])
def windrowlaw06_LayoutApart.B6 : List Nat := [0, 0, 3, 0, 0, 31, 0, 0, 255, 511]
theorem windrowlaw06_LayoutApart.tab6 : rtab .any (opsOf Try.f7 6) = windrowlaw06_LayoutApart.T6 := by kernel_rfl
theorem windrowlaw06_LayoutApart.bits6 : waitsOk windrowlaw06_LayoutApart.T6.2 windrowlaw06_LayoutApart.B6 = true := by kernel_rfl
def windrowlaw06_LayoutApart.T19 : Bool × List (List Nat × List Nat) := (true, [([], []), ([], []), ([1], [1]), ([0, 2], [0, 2]), ([], []), ([], []), ([5], [5]), ([4, 6, 3], [4, 6]), ([], []), ([], []), ([9], [9]), ([8, 10, 7], [8, 10]), ([], []), ([], []), ([13], [13]), ([12, 14, 11], [12, 14]), ([], []), ([], []), ([17], [17]), ([16, 18, 15], [16, 18]), ([3, 7, 11, 15, 19], [3, 7, 11, 15, 19]), ([20, 19, 0, 1, 2, 3, 4, 5, 6, 7, 8, 9, 10, 11, 12, 13, 14, 15, 16, 17, 18, 19, 20], [20])])
def windrowlaw06_LayoutApart.B19 : List Nat := [0, 0, 2, 7, 0, 0, 32, 127, 0, 0, 512, 2047, 0, 0, 8192, 32767, 0, 0, 131072, 524287, 1048575, 2097151]
theorem windrowlaw06_LayoutApart.tab19 : rtab .any (opsOf Try.f7 19) = windrowlaw06_LayoutApart.T19 := by kernel_rfl
theorem windrowlaw06_LayoutApart.bits19 : waitsOk windrowlaw06_LayoutApart.T19.2 windrowlaw06_LayoutApart.B19 = true := by kernel_rfl
set_option maxHeartbeats 8000000 in
set_option maxRecDepth 100000 in
theorem windrowlaw06_LayoutApart.calls (k : Nat) (a0_0 : Int) (a0_1 : Int) (a0_2 : Int) (a0_3 : Int) (a0_4 : Int) (r : Bool) (w : World) (HTRUE_ : Aside0 (r = true)) (h : windrowlaw06_LayoutApart.f k a0_0 a0_1 a0_2 a0_3 a0_4 = some r) :
    Calls Try.prog 7 #[.agg #[.int .i64 a0_0, .int .i64 a0_1, .int .i64 a0_2, .int .i64 a0_3, .int .i64 a0_4]] w fun e w' => e = .returned (.bool r) ∧ Below w.heap.size w w' := by
  have hu57 := Try.underlying57
  have hu23 := Try.underlying23
  have hu52 := Try.underlying52
  have HB := Aside0.mk (Below.refl w.heap.size w)
  have H : ((layout_New.f (wrap64 (1 + (wrap64 (Int.tmod (IntKind.u64.wrap (a0_0)) 32)))) (wrap64 (1 + (wrap64 (Int.tmod (IntKind.u64.wrap (a0_1)) 6)))) (wrap64 (1 + (wrap64 (Int.tmod (IntKind.u64.wrap (a0_2)) 16))))).bind fun bt169 => ((windrowlaw06_laid.f).bind fun t174 => (if t174 = true then (if bt169.2.2.2 = 0 then ((layout_Plan_Cells.f bt169.1 bt169.2.1 bt169.2.2.1).bind fun t175 => (windrowlaw06_LayoutApart.j0 k a0_3 a0_4 (decide (t175 < 64)) bt169.1 bt169.2.1 bt169.2.2.1)) else (windrowlaw06_LayoutApart.j0 k a0_3 a0_4 true bt169.1 bt169.2.1 bt169.2.2.1)) else (windrowlaw06_LayoutApart.j0 k a0_3 a0_4 true bt169.1 bt169.2.1 bt169.2.2.1)))) = some r := h
  clear h
  replace H := Option.bind_eq_some_iff.mp H
  obtain ⟨⟨t169, t170, t171, t172⟩, A20, H⟩ := H
  replace H : ((windrowlaw06_laid.f).bind fun t174 => (if t174 = true then (if t172 = 0 then ((layout_Plan_Cells.f t169 t170 t171).bind fun t175 => (windrowlaw06_LayoutApart.j0 k a0_3 a0_4 (decide (t175 < 64)) t169 t170 t171)) else (windrowlaw06_LayoutApart.j0 k a0_3 a0_4 true t169 t170 t171)) else (windrowlaw06_LayoutApart.j0 k a0_3 a0_4 true t169 t170 t171))) = some r := H
  have A2 := Aside0.mk A20
  clear A20
  have HC3 := Aside0.mk H
  clear H
  go_enter Try.func7, Try.ntmps7
  try go_wp2_with (first | ((with_reducible refine gate_dst (N := 1) rfl ?_); refine box_event ?hg (N := 1) ?hd (cs := #[.int .i64 a0_0, .int .i64 a0_1, .int .i64 a0_2, .int .i64 a0_3, .int .i64 a0_4]) (t := 57) ?hr ?_; (case hd => rfl); (case hg => rfl); (case hr => first | (go_simp; done) | (go_simp; rfl)); intro gb168 hg w4 hbox hb; have n0_ := Aside0.mk (below_step (pb HB.out) hb); have n1_ := Aside0.mk (hbox); have n2_ := Aside0.mk ((by rw [hg]; exact (below_size (pb HB.out)) : w.heap.size ≤ gb168)); have n3_ := Aside0.mk ((by rw [hg]; exact (below_size (pb HB.out)) : w.heap.size ≤ gb168)); clear HB; have HB := n0_; have BK168 := n1_; have GW168 := n2_; have GE168 := n3_; clear n0_ n1_ n2_ n3_; clear hb hbox hg))
  have n0_ := Aside0.mk (blk_drew BK168.out)
  have n1_ := Aside0.mk (below_drew1 HB.out)
  clear BK168
  clear HB
  have BK168 := n0_
  have HB := n1_
  clear n0_ n1_
  refine start_ (n := 15) (S := fun w' => w'.cell? ⟨gb168, 0, none⟩ = some (.int .i64 a0_0) ∧ w'.cell? ⟨gb168, 1, none⟩ = some (.int .i64 a0_1) ∧ w'.cell? ⟨gb168, 2, none⟩ = some (.int .i64 a0_2) ∧ w'.cell? ⟨gb168, 3, none⟩ = some (.int .i64 a0_3) ∧ w'.cell? ⟨gb168, 4, none⟩ = some (.int .i64 a0_4)) (ds := []) #[false, false, false, false, false, false, false, false, false, false, false, false, false, false, false] (by kernel_rfl) rfl rfl ⟨(blk_cell BK168.out 0).trans rfl, (blk_cell BK168.out 1).trans rfl, (blk_cell BK168.out 2).trans rfl, (blk_cell BK168.out 3).trans rfl, (blk_cell BK168.out 4).trans rfl⟩ (fun hHeld => ?_); refine with_tabW windrowlaw06_LayoutApart.tab1 windrowlaw06_LayoutApart.bits1 (fun HT_ HW_ => ?_)
  generalize w4.drew = w5 at BK168 HB hHeld ⊢
  refine pure_ (i := 0) (N := some 14) (v := ?_) (a' := ?_) #[true, false, false, false, false, false, false, false, false, false, false, false, false, false, false] rfl rfl (any_of HT_.out (by kernel_rfl)) (fun _ _ _ h => h) (Or.inl ⟨by rfl, ?_⟩) ?_ ?_
  rotate_left
  · intro w'
    go_simp
    with_reducible rfl
  rotate_left
  · simp only [Act.put, List.setIfInBounds_toArray, List.set_cons_zero, List.set_cons_succ, i64_w, i32_w]
    rfl
  refine pure_ (i := 2) (N := some 16) (v := ?_) (a' := ?_) #[true, false, true, false, false, false, false, false, false, false, false, false, false, false, false] rfl rfl (any_of HT_.out (by kernel_rfl)) (fun _ _ _ h => h) (Or.inl ⟨by rfl, ?_⟩) ?_ ?_
  rotate_left
  · intro w'
    go_simp
    with_reducible rfl
  rotate_left
  · simp only [Act.put, List.setIfInBounds_toArray, List.set_cons_zero, List.set_cons_succ, i64_w, i32_w]
    rfl
  refine pure_ (i := 4) (N := some 18) (v := ?_) (a' := ?_) #[true, false, true, false, true, false, false, false, false, false, false, false, false, false, false] rfl rfl (any_of HT_.out (by kernel_rfl)) (fun _ _ _ h => h) (Or.inl ⟨by rfl, ?_⟩) ?_ ?_
  rotate_left
  · intro w'
    go_simp
    with_reducible rfl
  rotate_left
  · simp only [Act.put, List.setIfInBounds_toArray, List.set_cons_zero, List.set_cons_succ, i64_w, i32_w]
    rfl
  refine pure_ (i := 6) (N := some 20) (v := ?_) (a' := ?_) #[true, false, true, false, true, false, true, false, false, false, false, false, false, false, false] rfl rfl (any_of HT_.out (by kernel_rfl)) (fun _ _ _ h => h) (Or.inl ⟨by rfl, ?_⟩) ?_ ?_
  rotate_left
  · intro w'
    go_simp
    with_reducible rfl
  rotate_left
  · simp only [Act.put, List.setIfInBounds_toArray, List.set_cons_zero, List.set_cons_succ, i64_w, i32_w]
    rfl
  refine pure_ (i := 8) (N := some 22) (v := ?_) (a' := ?_) #[true, false, true, false, true, false, true, false, true, false, false, false, false, false, false] rfl rfl (any_of HT_.out (by kernel_rfl)) (fun _ _ _ h => h) (Or.inl ⟨by rfl, ?_⟩) ?_ ?_
  rotate_left
  · intro w'
    go_simp
    with_reducible rfl
  rotate_left
  · simp only [Act.put, List.setIfInBounds_toArray, List.set_cons_zero, List.set_cons_succ, i64_w, i32_w]
    rfl
  refine take_ (i := 1) (N := some 15) (v := ?_) (a' := ?_) #[true, true, true, false, true, false, true, false, true, false, false, false, false, false, false] rfl rfl (take_ofW HT_.out HW_.out (by kernel_rfl)) (fun _ _ _ h => h) (Or.inl ⟨by rfl, ?_⟩) hHeld ?_ ?_
  rotate_left
  · rintro w' ⟨s0, s1, s2, s3, s4⟩
    go_simp
    with_reducible rfl
  rotate_left
  · simp only [Act.put, List.setIfInBounds_toArray, List.set_cons_zero, List.set_cons_succ, i64_w, i32_w]
    rfl
  refine pure_ (i := 10) (N := some 3) (v := ?_) (a' := ?_) #[true, true, true, false, true, false, true, false, true, false, true, false, false, false, false] rfl rfl (any_of HT_.out (by kernel_rfl)) (fun _ _ _ h => h) (Or.inl ⟨by rfl, ?_⟩) ?_ ?_
  rotate_left
  · intro w'
    go_simp
    with_reducible rfl
  rotate_left
  · simp only [Act.put, List.setIfInBounds_toArray, List.set_cons_zero, List.set_cons_succ, i64_w, i32_w]
    rfl
  refine take_ (i := 3) (N := some 17) (v := ?_) (a' := ?_) #[true, true, true, true, true, false, true, false, true, false, true, false, false, false, false] rfl rfl (take_ofW HT_.out HW_.out (by kernel_rfl)) (fun _ _ _ h => h) (Or.inl ⟨by rfl, ?_⟩) hHeld ?_ ?_
  rotate_left
  · rintro w' ⟨s0, s1, s2, s3, s4⟩
    go_simp
    with_reducible rfl
  rotate_left
  · simp only [Act.put, List.setIfInBounds_toArray, List.set_cons_zero, List.set_cons_succ, i64_w, i32_w]
    rfl
  refine pure_ (i := 11) (N := some 4) (v := ?_) (a' := ?_) #[true, true, true, true, true, false, true, false, true, false, true, true, false, false, false] rfl rfl (any_of HT_.out (by kernel_rfl)) (fun _ _ _ h => h) (Or.inl ⟨by rfl, ?_⟩) ?_ ?_
  rotate_left
  · intro w'
    go_simp
    with_reducible rfl
  rotate_left
  · simp only [Act.put, List.setIfInBounds_toArray, List.set_cons_zero, List.set_cons_succ, i64_w, i32_w]
    rfl
  refine take_ (i := 5) (N := some 19) (v := ?_) (a' := ?_) #[true, true, true, true, true, true, true, false, true, false, true, true, false, false, false] rfl rfl (take_ofW HT_.out HW_.out (by kernel_rfl)) (fun _ _ _ h => h) (Or.inl ⟨by rfl, ?_⟩) hHeld ?_ ?_
  rotate_left
  · rintro w' ⟨s0, s1, s2, s3, s4⟩
    go_simp
    with_reducible rfl
  rotate_left
  · simp only [Act.put, List.setIfInBounds_toArray, List.set_cons_zero, List.set_cons_succ, i64_w, i32_w]
    rfl
  refine pure_ (i := 12) (N := some 5) (v := ?_) (a' := ?_) #[true, true, true, true, true, true, true, false, true, false, true, true, true, false, false] rfl rfl (any_of HT_.out (by kernel_rfl)) (fun _ _ _ h => h) (Or.inl ⟨by rfl, ?_⟩) ?_ ?_
  rotate_left
  · intro w'
    go_simp
    with_reducible rfl
  rotate_left
  · simp only [Act.put, List.setIfInBounds_toArray, List.set_cons_zero, List.set_cons_succ, i64_w, i32_w]
    rfl
  refine take_ (i := 7) (N := some 21) (v := ?_) (a' := ?_) #[true, true, true, true, true, true, true, true, true, false, true, true, true, false, false] rfl rfl (take_ofW HT_.out HW_.out (by kernel_rfl)) (fun _ _ _ h => h) (Or.inl ⟨by rfl, ?_⟩) hHeld ?_ ?_
  rotate_left
  · rintro w' ⟨s0, s1, s2, s3, s4⟩
    go_simp
    with_reducible rfl
  rotate_left
  · simp only [Act.put, List.setIfInBounds_toArray, List.set_cons_zero, List.set_cons_succ, i64_w, i32_w]
    rfl
  refine pure_ (i := 13) (N := some 6) (v := ?_) (a' := ?_) #[true, true, true, true, true, true, true, true, true, false, true, true, true, true, false] rfl rfl (any_of HT_.out (by kernel_rfl)) (fun _ _ _ h => h) (Or.inl ⟨by rfl, ?_⟩) ?_ ?_
  rotate_left
  · intro w'
    go_simp
    with_reducible rfl
  rotate_left
  · simp only [Act.put, List.setIfInBounds_toArray, List.set_cons_zero, List.set_cons_succ, i64_w, i32_w]
    rfl
  refine take_ (i := 9) (N := some 23) (v := ?_) (a' := ?_) #[true, true, true, true, true, true, true, true, true, true, true, true, true, true, false] rfl rfl (take_ofW HT_.out HW_.out (by kernel_rfl)) (fun _ _ _ h => h) (Or.inl ⟨by rfl, ?_⟩) hHeld ?_ ?_
  rotate_left
  · rintro w' ⟨s0, s1, s2, s3, s4⟩
    go_simp
    with_reducible rfl
  rotate_left
  · simp only [Act.put, List.setIfInBounds_toArray, List.set_cons_zero, List.set_cons_succ, i64_w, i32_w]
    rfl
  refine pure_ (i := 14) (N := some 7) (v := ?_) (a' := ?_) #[true, true, true, true, true, true, true, true, true, true, true, true, true, true, true] rfl rfl (any_of HT_.out (by kernel_rfl)) (fun _ _ _ h => h) (Or.inl ⟨by rfl, ?_⟩) ?_ ?_
  rotate_left
  · intro w'
    go_simp
    with_reducible rfl
  rotate_left
  · simp only [Act.put, List.setIfInBounds_toArray, List.set_cons_zero, List.set_cons_succ, i64_w, i32_w]
    rfl
  refine done_ (done_of HT_.out (by kernel_rfl)) ?_
  go_upto_region 3 with (first | ((with_reducible refine gate_callee (f := 8) rfl ?_); refine goesL_ (some 40) rfl rfl Try.func8 (by kernel_rfl) rfl #[.int .i64 (wrap64 (1 + (wrap64 (Int.tmod (IntKind.u64.wrap (a0_0)) 32)))), .int .i64 (wrap64 (1 + (wrap64 (Int.tmod (IntKind.u64.wrap (a0_1)) 6)))), .int .i64 (wrap64 (1 + (wrap64 (Int.tmod (IntKind.u64.wrap (a0_2)) 16))))] rfl (by (try simp only [List.map_toArray, List.map_cons, List.map_nil]); first | done | rfl | (simp only [List.length_drop, List.length_take]; rfl)) ?_; (with_reducible refine (layout_New.calls (wrap64 (1 + (wrap64 (Int.tmod (IntKind.u64.wrap (a0_0)) 32)))) (wrap64 (1 + (wrap64 (Int.tmod (IntKind.u64.wrap (a0_1)) 6)))) (wrap64 (1 + (wrap64 (Int.tmod (IntKind.u64.wrap (a0_2)) 16)))) t169 t170 t171 t172 _ A2.out).mono ?_); rintro e w6 ⟨rfl, hb⟩; refine ⟨_, rfl, ?_⟩; have n0_ := Aside0.mk (blk_below (g := gb168) (o := .cells #[.int .i64 a0_0, .int .i64 a0_1, .int .i64 a0_2, .int .i64 a0_3, .int .i64 a0_4] 57 (0, 0)) (pk BK168.out) hb); have n1_ := Aside0.mk (below_step (pb HB.out) hb); clear BK168; clear HB; have BK168 := n0_; have HB := n1_; clear n0_ n1_; (try clear hb); (try clear hb2); (try clear hk); (try clear hi)) | ((with_reducible refine gate_dst (N := 8) rfl ?_); refine box_event ?hg (N := 8) ?hd (cs := #[.int .i64 0, .int .i64 0, .int .i64 0]) (t := 23) ?hr ?_; (case hd => rfl); (case hg => rfl); (case hr => first | (go_simp; done) | (go_simp; rfl)); intro gb173 hg w7 hbox hb; have n0_ := Aside0.mk (blk_below (g := gb168) (o := .cells #[.int .i64 a0_0, .int .i64 a0_1, .int .i64 a0_2, .int .i64 a0_3, .int .i64 a0_4] 57 (0, 0)) (pk BK168.out) hb); have n1_ := Aside0.mk (below_step (pb HB.out) hb); have n2_ := Aside0.mk (hbox); have n3_ := Aside0.mk ((by rw [hg]; exact (below_size (pb HB.out)) : w.heap.size ≤ gb173)); have n4_ := Aside0.mk ((by rw [hg]; exact (below_size (pb HB.out)) : w.heap.size ≤ gb173)); have n5_ := Aside0.mk ((by rw [hg]; exact Nat.ne_of_lt (blk_lt (g := gb168) (o := .cells #[.int .i64 a0_0, .int .i64 a0_1, .int .i64 a0_2, .int .i64 a0_3, .int .i64 a0_4] 57 (0, 0)) (pk BK168.out)) : gb168 ≠ gb173)); have n6_ := Aside0.mk ((by rw [hg]; exact Nat.ne_of_gt (blk_lt (g := gb168) (o := .cells #[.int .i64 a0_0, .int .i64 a0_1, .int .i64 a0_2, .int .i64 a0_3, .int .i64 a0_4] 57 (0, 0)) (pk BK168.out)) : gb173 ≠ gb168)); clear BK168; clear HB; have BK168 := n0_; have HB := n1_; have BK173 := n2_; have GW173 := n3_; have GE173 := n4_; have NB168_173 := n5_; have NB173_168 := n6_; clear n0_ n1_ n2_ n3_ n4_ n5_ n6_; clear hb hbox hg; have hnb8 := NB173_168.out; have hnc8 := NB168_173.out; have hcz9_0 : w7.cell? ⟨gb173, 0, none⟩ = some (.int .i64 0) := (blk_cell BK173.out 0).trans rfl; have hcz9_1 : w7.cell? ⟨gb173, 1, none⟩ = some (.int .i64 0) := (blk_cell BK173.out 1).trans rfl; have hcz9_2 : w7.cell? ⟨gb173, 2, none⟩ = some (.int .i64 0) := (blk_cell BK173.out 2).trans rfl; have hfz9_0 := blk_frozen BK173.out 0; have hfz9_1 := blk_frozen BK173.out 1; have hfz9_2 := blk_frozen BK173.out 2))
  (try simp only [Act.put, sa, sb, sc])
  go_cut [53] (fun v53 wc => ∃ (kq : Nat) (x53_2 : Bool), v53 = .bool x53_2 ∧ Aside0 (windrowlaw06_LayoutApart.j0 kq a0_3 a0_4 x53_2 t169 t170 t171 = some r) ∧ Aside0 (kq ≤ k) ∧ Aside0 (wc.heap[gb168]? = some (.cells #[.int .i64 a0_0, .int .i64 a0_1, .int .i64 a0_2, .int .i64 a0_3, .int .i64 a0_4] 57 (0, 0))) ∧ Aside0 (wc.heap[gb173]? = some (.cells #[.int .i64 t169, .int .i64 t170, .int .i64 t171] 23 (0, 0))) ∧ Aside0 (Below w.heap.size w wc))
  case first =>
    have H := HC3.out
    clear HC3
    replace H := Option.bind_eq_some_iff.mp H
    obtain ⟨t174, A100, H⟩ := H
    replace H : (if t174 = true then (if t172 = 0 then ((layout_Plan_Cells.f t169 t170 t171).bind fun t175 => (windrowlaw06_LayoutApart.j0 k a0_3 a0_4 (decide (t175 < 64)) t169 t170 t171)) else (windrowlaw06_LayoutApart.j0 k a0_3 a0_4 true t169 t170 t171)) else (windrowlaw06_LayoutApart.j0 k a0_3 a0_4 true t169 t170 t171)) = some r := H
    have A10 := Aside0.mk A100
    clear A100
    by_cases c11 : t174 = true
    rotate_left
    · replace c11 := Bool.eq_false_iff.mpr c11
      subst c11
      have H1 : (windrowlaw06_LayoutApart.j0 k a0_3 a0_4 true t169 t170 t171) = some r := by rw [if_neg (show ¬ (false = true) by decide)] at H; exact H
      clear H
      have H := H1
      clear H1
      have H' := Aside0.mk H
      clear H
      go_wp2_with (first | ((with_reducible refine gate_callee (f := 10) rfl ?_); refine goesL_ (some 43) rfl rfl Try.func10 (by kernel_rfl) rfl #[] rfl (by (try simp only [List.map_toArray, List.map_cons, List.map_nil]); first | done | rfl | (simp only [List.length_drop, List.length_take]; rfl)) ?_; (with_reducible refine (windrowlaw06_laid.calls  false _ A10.out).mono ?_); rintro e w19 ⟨rfl, hb⟩; refine ⟨_, rfl, ?_⟩; have n0_ := Aside0.mk (blk_below (g := gb168) (o := .cells #[.int .i64 a0_0, .int .i64 a0_1, .int .i64 a0_2, .int .i64 a0_3, .int .i64 a0_4] 57 (0, 0)) (pk BK168.out) hb); have n1_ := Aside0.mk (blk_below (g := gb173) (o := .cells #[.int .i64 t169, .int .i64 t170, .int .i64 t171] 23 (0, 0)) (by (with_reducible repeat (first | refine blk_drewN ?_ _ | refine blk_drew ?_ | refine blk_alloc ?_ _)); refine blk_put (cs := #[.int .i64 t169, .int .i64 t170, .int .i64 0]) ?_ 2 _ rfl; (with_reducible repeat (first | refine blk_drewN ?_ _ | refine blk_drew ?_ | refine blk_alloc ?_ _)); refine blk_put (cs := #[.int .i64 t169, .int .i64 0, .int .i64 0]) ?_ 1 _ rfl; (with_reducible repeat (first | refine blk_drewN ?_ _ | refine blk_drew ?_ | refine blk_alloc ?_ _)); refine blk_put (cs := #[.int .i64 0, .int .i64 0, .int .i64 0]) ?_ 0 _ rfl; (with_reducible repeat (first | refine blk_drewN ?_ _ | refine blk_drew ?_ | refine blk_alloc ?_ _)); exact BK173.out) hb); have n2_ := Aside0.mk (below_step (pb HB.out) hb); clear BK168; clear BK173; clear HB; have BK168 := n0_; have BK173 := n1_; have HB := n2_; clear n0_ n1_ n2_; (try clear hb); (try clear hb2); (try clear hk); (try clear hi)))
      go_meet
      case rel => exact ⟨_, (true), (by first | rfl | (simp; done) | (simp [*]; done)), H', ⟨by first | omega | exact Nat.le_refl _⟩, ⟨by (with_reducible repeat (first | refine blk_drewN ?_ _ | refine blk_drew ?_ | refine blk_alloc ?_ _)); exact BK168.out⟩, ⟨by (with_reducible repeat (first | refine blk_drewN ?_ _ | refine blk_drew ?_ | refine blk_alloc ?_ _)); exact BK173.out⟩, ⟨by repeat (first | (with_reducible first | exact HB.out | apply below_alloc | apply pw_below_drewN | apply below_drew1 | refine below_set ?_ GE168.out | refine below_set ?_ GE173.out) | exact HB.out)⟩⟩
    subst c11
    have H1 : (if t172 = 0 then ((layout_Plan_Cells.f t169 t170 t171).bind fun t175 => (windrowlaw06_LayoutApart.j0 k a0_3 a0_4 (decide (t175 < 64)) t169 t170 t171)) else (windrowlaw06_LayoutApart.j0 k a0_3 a0_4 true t169 t170 t171)) = some r := by rw [if_pos rfl] at H; exact H
    clear H
    have H := H1
    clear H1
    by_cases c12 : t172 = 0
    rotate_left
    · rw [if_neg c12] at H
      have c12b0 : (t172 == 0) = false := beq_eq_false_iff_ne.mpr c12
      have c12b1 : (t172 != 0) = true := bne_iff_ne.mpr c12
      (first | rw [c12b0] | (simp only [i64_w, i32_w]; rw [c12b0]) | rw [c12b1] | skip)
      have H' := Aside0.mk H
      clear H
      go_wp2_with (first | ((with_reducible refine gate_callee (f := 10) rfl ?_); refine goesL_ (some 43) rfl rfl Try.func10 (by kernel_rfl) rfl #[] rfl (by (try simp only [List.map_toArray, List.map_cons, List.map_nil]); first | done | rfl | (simp only [List.length_drop, List.length_take]; rfl)) ?_; (with_reducible refine (windrowlaw06_laid.calls  true _ A10.out).mono ?_); rintro e w18 ⟨rfl, hb⟩; refine ⟨_, rfl, ?_⟩; have n0_ := Aside0.mk (blk_below (g := gb168) (o := .cells #[.int .i64 a0_0, .int .i64 a0_1, .int .i64 a0_2, .int .i64 a0_3, .int .i64 a0_4] 57 (0, 0)) (pk BK168.out) hb); have n1_ := Aside0.mk (blk_below (g := gb173) (o := .cells #[.int .i64 t169, .int .i64 t170, .int .i64 t171] 23 (0, 0)) (by (with_reducible repeat (first | refine blk_drewN ?_ _ | refine blk_drew ?_ | refine blk_alloc ?_ _)); refine blk_put (cs := #[.int .i64 t169, .int .i64 t170, .int .i64 0]) ?_ 2 _ rfl; (with_reducible repeat (first | refine blk_drewN ?_ _ | refine blk_drew ?_ | refine blk_alloc ?_ _)); refine blk_put (cs := #[.int .i64 t169, .int .i64 0, .int .i64 0]) ?_ 1 _ rfl; (with_reducible repeat (first | refine blk_drewN ?_ _ | refine blk_drew ?_ | refine blk_alloc ?_ _)); refine blk_put (cs := #[.int .i64 0, .int .i64 0, .int .i64 0]) ?_ 0 _ rfl; (with_reducible repeat (first | refine blk_drewN ?_ _ | refine blk_drew ?_ | refine blk_alloc ?_ _)); exact BK173.out) hb); have n2_ := Aside0.mk (below_step (pb HB.out) hb); clear BK168; clear BK173; clear HB; have BK168 := n0_; have BK173 := n1_; have HB := n2_; clear n0_ n1_ n2_; (try clear hb); (try clear hb2); (try clear hk); (try clear hi)))
      go_meet
      case rel => exact ⟨_, (true), (by first | rfl | (simp; done) | (simp [*]; done)), H', ⟨by first | omega | exact Nat.le_refl _⟩, ⟨by (with_reducible repeat (first | refine blk_drewN ?_ _ | refine blk_drew ?_ | refine blk_alloc ?_ _)); exact BK168.out⟩, ⟨by (with_reducible repeat (first | refine blk_drewN ?_ _ | refine blk_drew ?_ | refine blk_alloc ?_ _)); exact BK173.out⟩, ⟨by repeat (first | (with_reducible first | exact HB.out | apply below_alloc | apply pw_below_drewN | apply below_drew1 | refine below_set ?_ GE168.out | refine below_set ?_ GE173.out) | exact HB.out)⟩⟩
    rw [if_pos c12] at H
    have c12b0 : (t172 == 0) = true := beq_iff_eq.mpr c12
    have c12b1 : (t172 != 0) = false := bne_eq_false_iff_eq.mpr c12
    clear c12
    (first | rw [c12b0] | (simp only [i64_w, i32_w]; rw [c12b0]) | rw [c12b1] | skip)
    replace H := Option.bind_eq_some_iff.mp H
    obtain ⟨t175, A130, H⟩ := H
    replace H : (windrowlaw06_LayoutApart.j0 k a0_3 a0_4 (decide (t175 < 64)) t169 t170 t171) = some r := H
    have A13 := Aside0.mk A130
    clear A130
    have H' := Aside0.mk H
    clear H
    go_wp2_with (first | ((with_reducible refine gate_callee (f := 10) rfl ?_); refine goesL_ (some 43) rfl rfl Try.func10 (by kernel_rfl) rfl #[] rfl (by (try simp only [List.map_toArray, List.map_cons, List.map_nil]); first | done | rfl | (simp only [List.length_drop, List.length_take]; rfl)) ?_; (with_reducible refine (windrowlaw06_laid.calls  true _ A10.out).mono ?_); rintro e w14 ⟨rfl, hb⟩; refine ⟨_, rfl, ?_⟩; have n0_ := Aside0.mk (blk_below (g := gb168) (o := .cells #[.int .i64 a0_0, .int .i64 a0_1, .int .i64 a0_2, .int .i64 a0_3, .int .i64 a0_4] 57 (0, 0)) (pk BK168.out) hb); have n1_ := Aside0.mk (blk_below (g := gb173) (o := .cells #[.int .i64 t169, .int .i64 t170, .int .i64 t171] 23 (0, 0)) (by (with_reducible repeat (first | refine blk_drewN ?_ _ | refine blk_drew ?_ | refine blk_alloc ?_ _)); refine blk_put (cs := #[.int .i64 t169, .int .i64 t170, .int .i64 0]) ?_ 2 _ rfl; (with_reducible repeat (first | refine blk_drewN ?_ _ | refine blk_drew ?_ | refine blk_alloc ?_ _)); refine blk_put (cs := #[.int .i64 t169, .int .i64 0, .int .i64 0]) ?_ 1 _ rfl; (with_reducible repeat (first | refine blk_drewN ?_ _ | refine blk_drew ?_ | refine blk_alloc ?_ _)); refine blk_put (cs := #[.int .i64 0, .int .i64 0, .int .i64 0]) ?_ 0 _ rfl; (with_reducible repeat (first | refine blk_drewN ?_ _ | refine blk_drew ?_ | refine blk_alloc ?_ _)); exact BK173.out) hb); have n2_ := Aside0.mk (below_step (pb HB.out) hb); clear BK168; clear BK173; clear HB; have BK168 := n0_; have BK173 := n1_; have HB := n2_; clear n0_ n1_ n2_; (try clear hb); (try clear hb2); (try clear hk); (try clear hi); have hnb15 := NB173_168.out; have hnc15 := NB168_173.out; have hcz16_0 : w14.cell? ⟨gb173, 0, none⟩ = some (.int .i64 t169) := (blk_cell BK173.out 0).trans rfl; have hcz16_1 : w14.cell? ⟨gb173, 1, none⟩ = some (.int .i64 t170) := (blk_cell BK173.out 1).trans rfl; have hcz16_2 : w14.cell? ⟨gb173, 2, none⟩ = some (.int .i64 t171) := (blk_cell BK173.out 2).trans rfl; have hfz16_0 := blk_frozen BK173.out 0; have hfz16_1 := blk_frozen BK173.out 1; have hfz16_2 := blk_frozen BK173.out 2) | (go_at_call 12; (with_reducible refine (layout_Plan_Cells.calls t169 t170 t171 t175 _ A13.out).mono ?_); rintro e w17 ⟨rfl, hb⟩; have n0_ := Aside0.mk (blk_below (g := gb168) (o := .cells #[.int .i64 a0_0, .int .i64 a0_1, .int .i64 a0_2, .int .i64 a0_3, .int .i64 a0_4] 57 (0, 0)) (pk BK168.out) hb); have n1_ := Aside0.mk (blk_below (g := gb173) (o := .cells #[.int .i64 t169, .int .i64 t170, .int .i64 t171] 23 (0, 0)) (pk BK173.out) hb); have n2_ := Aside0.mk (below_step (pb HB.out) hb); clear BK168; clear BK173; clear HB; have BK168 := n0_; have BK173 := n1_; have HB := n2_; clear n0_ n1_ n2_; (try clear hb); (try clear hb2); (try clear hk); (try clear hi)))
    go_meet
    case rel => exact ⟨_, (decide (t175 < 64)), (by first | rfl | (simp; done) | (simp [*]; done)), H', ⟨by first | omega | exact Nat.le_refl _⟩, ⟨by (with_reducible repeat (first | refine blk_drewN ?_ _ | refine blk_drew ?_ | refine blk_alloc ?_ _)); exact BK168.out⟩, ⟨by (with_reducible repeat (first | refine blk_drewN ?_ _ | refine blk_drew ?_ | refine blk_alloc ?_ _)); exact BK173.out⟩, ⟨by repeat (first | (with_reducible first | exact HB.out | apply below_alloc | apply pw_below_drewN | apply below_drew1 | refine below_set ?_ GE168.out | refine below_set ?_ GE173.out) | exact HB.out)⟩⟩
  clear HC3
  try clear c1
  try clear p2
  try clear p6
  try clear c7
  try clear c8
  try clear c10
  try clear c11
  try clear c12
  try clear c12b0
  try clear c12b1
  try clear c15
  try clear hcz16_0
  try clear hcz16_1
  try clear hcz16_2
  try clear hcz9_0
  try clear hcz9_1
  try clear hcz9_2
  try clear hfz16_0
  try clear hfz16_1
  try clear hfz16_2
  try clear hfz9_0
  try clear hfz9_1
  try clear hfz9_2
  obtain ⟨kq, x53_2, rfl, HA, HJ2, BK168, BK173, HB⟩ := hcut
  cases kq with
  | zero => exact absurd HA.out (by simp [windrowlaw06_LayoutApart.j0])
  | succ kj2 =>
    have H := HA.out
    clear HA
    simp only [windrowlaw06_LayoutApart.j0] at H
    by_cases c20 : x53_2 = true
    · subst c20
      have H1 : (some false) = some r := by rw [if_pos rfl] at H; exact H
      clear H
      have H := H1
      clear H1
      exact absurd (H.trans (congrArg some HTRUE_.out)) (by simp)
    replace c20 := Bool.eq_false_iff.mpr c20
    subst c20
    have H1 : ((layout_Plan_Cells.f t169 t170 t171).bind fun t176 => (if (IntKind.u64.wrap (t176)) = 0 then (none) else ((layout_Plan_Cells.f t169 t170 t171).bind fun t177 => (if (IntKind.u64.wrap (t177)) = 0 then (none) else ((layout_Plan_Find.f kj2 t169 t170 t171 (wrap64 (Int.tmod (IntKind.u64.wrap (a0_3)) (IntKind.u64.wrap (t176))))).bind fun bt178 => ((layout_Plan_Find.f kj2 t169 t170 t171 (wrap64 (Int.tmod (IntKind.u64.wrap (a0_4)) (IntKind.u64.wrap (t177))))).bind fun bt181 => (if (bt178.1 == bt181.1 && (bt178.2.1 == bt181.2.1 && (bt178.2.2 == bt181.2.2))) = true then (if (!(bt178.1 == 0) || (!(bt178.2.1 == 0) || (!(bt178.2.2 == 0)))) = true then (windrowlaw06_LayoutApart.j1 kj2 (wrap64 (Int.tmod (IntKind.u64.wrap (a0_3)) (IntKind.u64.wrap (t176)))) ((wrap64 (Int.tmod (IntKind.u64.wrap (a0_3)) (IntKind.u64.wrap (t176)))) != (wrap64 (Int.tmod (IntKind.u64.wrap (a0_4)) (IntKind.u64.wrap (t177))))) t169 t170 t171 bt178.1 bt178.2.1 bt178.2.2) else (windrowlaw06_LayoutApart.j1 kj2 (wrap64 (Int.tmod (IntKind.u64.wrap (a0_3)) (IntKind.u64.wrap (t176)))) false t169 t170 t171 bt178.1 bt178.2.1 bt178.2.2)) else (windrowlaw06_LayoutApart.j1 kj2 (wrap64 (Int.tmod (IntKind.u64.wrap (a0_3)) (IntKind.u64.wrap (t176)))) false t169 t170 t171 bt178.1 bt178.2.1 bt178.2.2)))))))) = some r := by rw [if_neg (show ¬ (false = true) by decide)] at H; exact H
    clear H
    have H := H1
    clear H1
    replace H := Option.bind_eq_some_iff.mp H
    obtain ⟨t176, A210, H⟩ := H
    replace H : (if (IntKind.u64.wrap (t176)) = 0 then (none) else ((layout_Plan_Cells.f t169 t170 t171).bind fun t177 => (if (IntKind.u64.wrap (t177)) = 0 then (none) else ((layout_Plan_Find.f kj2 t169 t170 t171 (wrap64 (Int.tmod (IntKind.u64.wrap (a0_3)) (IntKind.u64.wrap (t176))))).bind fun bt178 => ((layout_Plan_Find.f kj2 t169 t170 t171 (wrap64 (Int.tmod (IntKind.u64.wrap (a0_4)) (IntKind.u64.wrap (t177))))).bind fun bt181 => (if (bt178.1 == bt181.1 && (bt178.2.1 == bt181.2.1 && (bt178.2.2 == bt181.2.2))) = true then (if (!(bt178.1 == 0) || (!(bt178.2.1 == 0) || (!(bt178.2.2 == 0)))) = true then (windrowlaw06_LayoutApart.j1 kj2 (wrap64 (Int.tmod (IntKind.u64.wrap (a0_3)) (IntKind.u64.wrap (t176)))) ((wrap64 (Int.tmod (IntKind.u64.wrap (a0_3)) (IntKind.u64.wrap (t176)))) != (wrap64 (Int.tmod (IntKind.u64.wrap (a0_4)) (IntKind.u64.wrap (t177))))) t169 t170 t171 bt178.1 bt178.2.1 bt178.2.2) else (windrowlaw06_LayoutApart.j1 kj2 (wrap64 (Int.tmod (IntKind.u64.wrap (a0_3)) (IntKind.u64.wrap (t176)))) false t169 t170 t171 bt178.1 bt178.2.1 bt178.2.2)) else (windrowlaw06_LayoutApart.j1 kj2 (wrap64 (Int.tmod (IntKind.u64.wrap (a0_3)) (IntKind.u64.wrap (t176)))) false t169 t170 t171 bt178.1 bt178.2.1 bt178.2.2))))))) = some r := H
    have A21 := Aside0.mk A210
    clear A210
    by_cases c22 : (IntKind.u64.wrap (t176)) = 0
    · rw [if_pos c22] at H
      exact absurd H (by simp)
    rw [if_neg c22] at H
    have c22b0 : ((IntKind.u64.wrap (t176)) == 0) = false := beq_eq_false_iff_ne.mpr c22
    have c22b1 : ((IntKind.u64.wrap (t176)) != 0) = true := bne_iff_ne.mpr c22
    replace H := Option.bind_eq_some_iff.mp H
    obtain ⟨t177, A230, H⟩ := H
    have E_ := (A21.out).symm.trans A230
    simp only [Option.some.injEq, Prod.mk.injEq] at E_
    obtain rfl := E_
    replace H : (if (IntKind.u64.wrap (t176)) = 0 then (none) else ((layout_Plan_Find.f kj2 t169 t170 t171 (wrap64 (Int.tmod (IntKind.u64.wrap (a0_3)) (IntKind.u64.wrap (t176))))).bind fun bt178 => ((layout_Plan_Find.f kj2 t169 t170 t171 (wrap64 (Int.tmod (IntKind.u64.wrap (a0_4)) (IntKind.u64.wrap (t176))))).bind fun bt181 => (if (bt178.1 == bt181.1 && (bt178.2.1 == bt181.2.1 && (bt178.2.2 == bt181.2.2))) = true then (if (!(bt178.1 == 0) || (!(bt178.2.1 == 0) || (!(bt178.2.2 == 0)))) = true then (windrowlaw06_LayoutApart.j1 kj2 (wrap64 (Int.tmod (IntKind.u64.wrap (a0_3)) (IntKind.u64.wrap (t176)))) ((wrap64 (Int.tmod (IntKind.u64.wrap (a0_3)) (IntKind.u64.wrap (t176)))) != (wrap64 (Int.tmod (IntKind.u64.wrap (a0_4)) (IntKind.u64.wrap (t176))))) t169 t170 t171 bt178.1 bt178.2.1 bt178.2.2) else (windrowlaw06_LayoutApart.j1 kj2 (wrap64 (Int.tmod (IntKind.u64.wrap (a0_3)) (IntKind.u64.wrap (t176)))) false t169 t170 t171 bt178.1 bt178.2.1 bt178.2.2)) else (windrowlaw06_LayoutApart.j1 kj2 (wrap64 (Int.tmod (IntKind.u64.wrap (a0_3)) (IntKind.u64.wrap (t176)))) false t169 t170 t171 bt178.1 bt178.2.1 bt178.2.2))))) = some r := H
    have A23 := Aside0.mk A230
    clear A230
    by_cases c24 : (IntKind.u64.wrap (t176)) = 0
    · rw [if_pos c24] at H
      exact absurd H (by simp)
    rw [if_neg c24] at H
    have c24b0 : ((IntKind.u64.wrap (t176)) == 0) = false := beq_eq_false_iff_ne.mpr c24
    have c24b1 : ((IntKind.u64.wrap (t176)) != 0) = true := bne_iff_ne.mpr c24
    replace H := Option.bind_eq_some_iff.mp H
    obtain ⟨⟨t178, t179, t180⟩, A250, H⟩ := H
    replace H : ((layout_Plan_Find.f kj2 t169 t170 t171 (wrap64 (Int.tmod (IntKind.u64.wrap (a0_4)) (IntKind.u64.wrap (t176))))).bind fun bt181 => (if (t178 == bt181.1 && (t179 == bt181.2.1 && (t180 == bt181.2.2))) = true then (if (!(t178 == 0) || (!(t179 == 0) || (!(t180 == 0)))) = true then (windrowlaw06_LayoutApart.j1 kj2 (wrap64 (Int.tmod (IntKind.u64.wrap (a0_3)) (IntKind.u64.wrap (t176)))) ((wrap64 (Int.tmod (IntKind.u64.wrap (a0_3)) (IntKind.u64.wrap (t176)))) != (wrap64 (Int.tmod (IntKind.u64.wrap (a0_4)) (IntKind.u64.wrap (t176))))) t169 t170 t171 t178 t179 t180) else (windrowlaw06_LayoutApart.j1 kj2 (wrap64 (Int.tmod (IntKind.u64.wrap (a0_3)) (IntKind.u64.wrap (t176)))) false t169 t170 t171 t178 t179 t180)) else (windrowlaw06_LayoutApart.j1 kj2 (wrap64 (Int.tmod (IntKind.u64.wrap (a0_3)) (IntKind.u64.wrap (t176)))) false t169 t170 t171 t178 t179 t180))) = some r := H
    have A25 := Aside0.mk A250
    clear A250
    replace H := Option.bind_eq_some_iff.mp H
    obtain ⟨⟨t181, t182, t183⟩, A260, H⟩ := H
    replace H : (if (t178 == t181 && (t179 == t182 && (t180 == t183))) = true then (if (!(t178 == 0) || (!(t179 == 0) || (!(t180 == 0)))) = true then (windrowlaw06_LayoutApart.j1 kj2 (wrap64 (Int.tmod (IntKind.u64.wrap (a0_3)) (IntKind.u64.wrap (t176)))) ((wrap64 (Int.tmod (IntKind.u64.wrap (a0_3)) (IntKind.u64.wrap (t176)))) != (wrap64 (Int.tmod (IntKind.u64.wrap (a0_4)) (IntKind.u64.wrap (t176))))) t169 t170 t171 t178 t179 t180) else (windrowlaw06_LayoutApart.j1 kj2 (wrap64 (Int.tmod (IntKind.u64.wrap (a0_3)) (IntKind.u64.wrap (t176)))) false t169 t170 t171 t178 t179 t180)) else (windrowlaw06_LayoutApart.j1 kj2 (wrap64 (Int.tmod (IntKind.u64.wrap (a0_3)) (IntKind.u64.wrap (t176)))) false t169 t170 t171 t178 t179 t180)) = some r := H
    have A26 := Aside0.mk A260
    clear A260
    have HC27 := Aside0.mk H
    clear H
    try go_wp2
    have n0_ := Aside0.mk (blk_drew BK168.out)
    have n1_ := Aside0.mk (blk_drew BK173.out)
    have n2_ := Aside0.mk (below_drew1 HB.out)
    clear BK168
    clear BK173
    clear HB
    have BK168 := n0_
    have BK173 := n1_
    have HB := n2_
    clear n0_ n1_ n2_
    refine start_ (n := 16) (S := fun w' => w'.cell? ⟨gb173, 0, none⟩ = some (.int .i64 t169) ∧ w'.cell? ⟨gb173, 1, none⟩ = some (.int .i64 t170) ∧ w'.cell? ⟨gb173, 2, none⟩ = some (.int .i64 t171)) (ds := []) #[false, false, false, false, false, false, false, false, false, false, false, false, false, false, false, false] (by kernel_rfl) rfl rfl ⟨(blk_cell BK173.out 0).trans rfl, (blk_cell BK173.out 1).trans rfl, (blk_cell BK173.out 2).trans rfl⟩ (fun hHeld => ?_); refine with_tabW windrowlaw06_LayoutApart.tab5 windrowlaw06_LayoutApart.bits5 (fun HT_ HW_ => ?_)
    generalize wc.drew = w28 at BK168 BK173 HB hHeld ⊢
    refine pure_ (i := 0) (N := some 54) (v := ?_) (a' := ?_) #[true, false, false, false, false, false, false, false, false, false, false, false, false, false, false, false] rfl rfl (any_of HT_.out (by kernel_rfl)) (fun _ _ _ h => h) (Or.inl ⟨by rfl, ?_⟩) ?_ ?_
    rotate_left
    · intro w'
      go_simp
      with_reducible rfl
    rotate_left
    · simp only [Act.put, List.setIfInBounds_toArray, List.set_cons_zero, List.set_cons_succ, i64_w, i32_w]
      rfl
    refine pure_ (i := 1) (N := some 55) (v := ?_) (a' := ?_) #[true, true, false, false, false, false, false, false, false, false, false, false, false, false, false, false] rfl rfl (any_of HT_.out (by kernel_rfl)) (fun _ _ _ h => h) (Or.inl ⟨by rfl, ?_⟩) ?_ ?_
    rotate_left
    · intro w'
      go_simp
      with_reducible rfl
    rotate_left
    · simp only [Act.put, List.setIfInBounds_toArray, List.set_cons_zero, List.set_cons_succ, i64_w, i32_w]
      rfl
    refine pure_ (i := 7) (N := some 61) (v := ?_) (a' := ?_) #[true, true, false, false, false, false, false, true, false, false, false, false, false, false, false, false] rfl rfl (any_of HT_.out (by kernel_rfl)) (fun _ _ _ h => h) (Or.inl ⟨by rfl, ?_⟩) ?_ ?_
    rotate_left
    · intro w'
      go_simp
      with_reducible rfl
    rotate_left
    · simp only [Act.put, List.setIfInBounds_toArray, List.set_cons_zero, List.set_cons_succ, i64_w, i32_w]
      rfl
    refine pure_ (i := 8) (N := some 62) (v := ?_) (a' := ?_) #[true, true, false, false, false, false, false, true, true, false, false, false, false, false, false, false] rfl rfl (any_of HT_.out (by kernel_rfl)) (fun _ _ _ h => h) (Or.inl ⟨by rfl, ?_⟩) ?_ ?_
    rotate_left
    · intro w'
      go_simp
      with_reducible rfl
    rotate_left
    · simp only [Act.put, List.setIfInBounds_toArray, List.set_cons_zero, List.set_cons_succ, i64_w, i32_w]
      rfl
    refine take_ (i := 2) (N := some 56) (v := ?_) (a' := ?_) #[true, true, true, false, false, false, false, true, true, false, false, false, false, false, false, false] rfl rfl (take_ofW HT_.out HW_.out (by kernel_rfl)) (fun _ _ _ h => h) (Or.inl ⟨by rfl, ?_⟩) hHeld ?_ ?_
    rotate_left
    · rintro w' ⟨s0, s1, s2⟩
      go_simp
      with_reducible rfl
    rotate_left
    · simp only [Act.put, List.setIfInBounds_toArray, List.set_cons_zero, List.set_cons_succ, i64_w, i32_w]
      rfl
    refine take_ (i := 9) (N := some 63) (v := ?_) (a' := ?_) #[true, true, true, false, false, false, false, true, true, true, false, false, false, false, false, false] rfl rfl (take_ofW HT_.out HW_.out (by kernel_rfl)) (fun _ _ _ h => h) (Or.inl ⟨by rfl, ?_⟩) hHeld ?_ ?_
    rotate_left
    · rintro w' ⟨s0, s1, s2⟩
      go_simp
      with_reducible rfl
    rotate_left
    · simp only [Act.put, List.setIfInBounds_toArray, List.set_cons_zero, List.set_cons_succ, i64_w, i32_w]
      rfl
    refine one_ (i := 3) (N := some 57) #[true, true, true, true, false, false, false, true, true, true, false, false, false, false, false, false] rfl rfl (one_of HT_.out (by kernel_rfl)) (by decide) (fun K hK => ?_)
    refine goes_ Try.func12 (by kernel_rfl) rfl #[.agg #[.int .i64 t169, .int .i64 t170, .int .i64 t171]] (by rfl) rfl rfl (by (try simp only [List.map_toArray, List.map_cons, List.map_nil]); first | done | rfl | (simp only [List.length_drop, List.length_take]; rfl)) ?_
    with_reducible refine (layout_Plan_Cells.calls t169 t170 t171 t176 _ A21.out).mono ?_
    rintro e w29 ⟨rfl, hb⟩
    refine ⟨_, rfl, ?_⟩
    have n0_ := Aside0.mk (blk_below (g := gb168) (o := .cells #[.int .i64 a0_0, .int .i64 a0_1, .int .i64 a0_2, .int .i64 a0_3, .int .i64 a0_4] 57 (0, 0)) (pk BK168.out) hb)
    have n1_ := Aside0.mk (blk_below (g := gb173) (o := .cells #[.int .i64 t169, .int .i64 t170, .int .i64 t171] 23 (0, 0)) (pk BK173.out) hb)
    have n2_ := Aside0.mk (below_step (pb HB.out) hb)
    clear BK168
    clear BK173
    clear HB
    have BK168 := n0_
    have BK173 := n1_
    have HB := n2_
    clear n0_ n1_ n2_
    (try clear hb)
    (try clear hb2)
    (try clear hk)
    (try clear hi)
    refine hK.out _ _ ⟨(blk_cell BK173.out 0).trans rfl, (blk_cell BK173.out 1).trans rfl, (blk_cell BK173.out 2).trans rfl⟩ (fun hHeld => ?_)
    clear hK K
    refine norm_ (a' := ?_) ?_ ?_
    rotate_left
    · show Act.put _ (some 57) _ = _
      simp only [Act.put, List.setIfInBounds_toArray, List.set_cons_zero, List.set_cons_succ, i64_w, i32_w]
      rfl
    refine pure_ (i := 4) (N := some 58) (v := ?_) (a' := ?_) #[true, true, true, true, true, false, false, true, true, true, false, false, false, false, false, false] rfl rfl (any_of HT_.out (by kernel_rfl)) (fun _ _ _ h => h) (Or.inl ⟨by rfl, ?_⟩) ?_ ?_
    rotate_left
    · intro w'
      go_simp
      with_reducible rfl
    rotate_left
    · simp only [Act.put, List.setIfInBounds_toArray, List.set_cons_zero, List.set_cons_succ, i64_w, i32_w]
      rfl
    refine pure_ (i := 5) (N := some 59) (v := ?_) (a' := ?_) #[true, true, true, true, true, true, false, true, true, true, false, false, false, false, false, false] rfl rfl (any_of HT_.out (by kernel_rfl)) (fun _ _ _ h => h) (Or.inl ⟨by rfl, ?_⟩) ?_ ?_
    rotate_left
    · intro w'
      go_simp
      with_reducible rfl
    rotate_left
    · simp only [Act.put, List.setIfInBounds_toArray, List.set_cons_zero, List.set_cons_succ, i64_w, i32_w]
      rfl
    refine pure_ (i := 6) (N := some 60) (v := ?_) (a' := ?_) #[true, true, true, true, true, true, true, true, true, true, false, false, false, false, false, false] rfl rfl (any_of HT_.out (by kernel_rfl)) (fun _ _ _ h => h) (Or.inl ⟨by rfl, ?_⟩) ?_ ?_
    rotate_left
    · intro w'
      go_simp
      with_reducible rfl
    rotate_left
    · simp only [Act.put, List.setIfInBounds_toArray, List.set_cons_zero, List.set_cons_succ, i64_w, i32_w]
      rfl
    refine one_ (i := 10) (N := some 64) #[true, true, true, true, true, true, true, true, true, true, true, false, false, false, false, false] rfl rfl (one_of HT_.out (by kernel_rfl)) (by decide) (fun K hK => ?_)
    refine goes_ Try.func12 (by kernel_rfl) rfl #[.agg #[.int .i64 t169, .int .i64 t170, .int .i64 t171]] (by rfl) rfl rfl (by (try simp only [List.map_toArray, List.map_cons, List.map_nil]); first | done | rfl | (simp only [List.length_drop, List.length_take]; rfl)) ?_
    with_reducible refine (layout_Plan_Cells.calls t169 t170 t171 t176 _ A23.out).mono ?_
    rintro e w30 ⟨rfl, hb⟩
    refine ⟨_, rfl, ?_⟩
    have n0_ := Aside0.mk (blk_below (g := gb168) (o := .cells #[.int .i64 a0_0, .int .i64 a0_1, .int .i64 a0_2, .int .i64 a0_3, .int .i64 a0_4] 57 (0, 0)) (pk BK168.out) hb)
    have n1_ := Aside0.mk (blk_below (g := gb173) (o := .cells #[.int .i64 t169, .int .i64 t170, .int .i64 t171] 23 (0, 0)) (pk BK173.out) hb)
    have n2_ := Aside0.mk (below_step (pb HB.out) hb)
    clear BK168
    clear BK173
    clear HB
    have BK168 := n0_
    have BK173 := n1_
    have HB := n2_
    clear n0_ n1_ n2_
    (try clear hb)
    (try clear hb2)
    (try clear hk)
    (try clear hi)
    refine hK.out _ _ ⟨(blk_cell BK173.out 0).trans rfl, (blk_cell BK173.out 1).trans rfl, (blk_cell BK173.out 2).trans rfl⟩ (fun hHeld => ?_)
    clear hK K
    refine norm_ (a' := ?_) ?_ ?_
    rotate_left
    · show Act.put _ (some 64) _ = _
      simp only [Act.put, List.setIfInBounds_toArray, List.set_cons_zero, List.set_cons_succ, i64_w, i32_w]
      rfl
    refine pure_ (i := 11) (N := some 65) (v := ?_) (a' := ?_) #[true, true, true, true, true, true, true, true, true, true, true, true, false, false, false, false] rfl rfl (any_of HT_.out (by kernel_rfl)) (fun _ _ _ h => h) (Or.inl ⟨by rfl, ?_⟩) ?_ ?_
    rotate_left
    · intro w'
      go_simp
      with_reducible rfl
    rotate_left
    · simp only [Act.put, List.setIfInBounds_toArray, List.set_cons_zero, List.set_cons_succ, i64_w, i32_w]
      rfl
    refine pure_ (i := 12) (N := some 66) (v := ?_) (a' := ?_) #[true, true, true, true, true, true, true, true, true, true, true, true, true, false, false, false] rfl rfl (any_of HT_.out (by kernel_rfl)) (fun _ _ _ h => h) (Or.inl ⟨by rfl, ?_⟩) ?_ ?_
    rotate_left
    · intro w'
      go_simp
      with_reducible rfl
    rotate_left
    · simp only [Act.put, List.setIfInBounds_toArray, List.set_cons_zero, List.set_cons_succ, i64_w, i32_w]
      rfl
    refine pure_ (i := 13) (N := some 67) (v := ?_) (a' := ?_) #[true, true, true, true, true, true, true, true, true, true, true, true, true, true, false, false] rfl rfl (any_of HT_.out (by kernel_rfl)) (fun _ _ _ h => h) (Or.inl ⟨by rfl, ?_⟩) ?_ ?_
    rotate_left
    · intro w'
      go_simp
      with_reducible rfl
    rotate_left
    · simp only [Act.put, List.setIfInBounds_toArray, List.set_cons_zero, List.set_cons_succ, i64_w, i32_w]
      rfl
    refine pure_ (i := 14) (N := some 6) (v := ?_) (a' := ?_) #[true, true, true, true, true, true, true, true, true, true, true, true, true, true, true, false] rfl rfl (any_of HT_.out (by kernel_rfl)) (fun _ _ _ h => h) (Or.inl ⟨by rfl, ?_⟩) ?_ ?_
    rotate_left
    · intro w'
      go_simp
      with_reducible rfl
    rotate_left
    · simp only [Act.put, List.setIfInBounds_toArray, List.set_cons_zero, List.set_cons_succ, i64_w, i32_w]
      rfl
    refine pure_ (i := 15) (N := some 7) (v := ?_) (a' := ?_) #[true, true, true, true, true, true, true, true, true, true, true, true, true, true, true, true] rfl rfl (any_of HT_.out (by kernel_rfl)) (fun _ _ _ h => h) (Or.inl ⟨by rfl, ?_⟩) ?_ ?_
    rotate_left
    · intro w'
      go_simp
      with_reducible rfl
    rotate_left
    · simp only [Act.put, List.setIfInBounds_toArray, List.set_cons_zero, List.set_cons_succ, i64_w, i32_w]
      rfl
    refine done_ (done_of HT_.out (by kernel_rfl)) ?_
    try go_wp2
    have n0_ := Aside0.mk (blk_drew BK168.out)
    have n1_ := Aside0.mk (blk_drew BK173.out)
    have n2_ := Aside0.mk (below_drew1 HB.out)
    clear BK168
    clear BK173
    clear HB
    have BK168 := n0_
    have BK173 := n1_
    have HB := n2_
    clear n0_ n1_ n2_
    refine start_ (n := 10) (S := fun w' => w'.cell? ⟨gb173, 0, none⟩ = some (.int .i64 t169) ∧ w'.cell? ⟨gb173, 1, none⟩ = some (.int .i64 t170) ∧ w'.cell? ⟨gb173, 2, none⟩ = some (.int .i64 t171)) (ds := []) #[false, false, false, false, false, false, false, false, false, false] (by kernel_rfl) rfl rfl ⟨(blk_cell BK173.out 0).trans rfl, (blk_cell BK173.out 1).trans rfl, (blk_cell BK173.out 2).trans rfl⟩ (fun hHeld => ?_); refine with_tabW windrowlaw06_LayoutApart.tab6 windrowlaw06_LayoutApart.bits6 (fun HT_ HW_ => ?_)
    generalize w30.drew = w31 at BK168 BK173 HB hHeld ⊢
    refine pure_ (i := 1) (N := some 69) (v := ?_) (a' := ?_) #[false, true, false, false, false, false, false, false, false, false] rfl rfl (any_of HT_.out (by kernel_rfl)) (fun _ _ _ h => h) (Or.inl ⟨by rfl, ?_⟩) ?_ ?_
    rotate_left
    · intro w'
      go_simp
      with_reducible rfl
    rotate_left
    · simp only [Act.put, List.setIfInBounds_toArray, List.set_cons_zero, List.set_cons_succ, i64_w, i32_w]
      rfl
    refine pure_ (i := 4) (N := some 72) (v := ?_) (a' := ?_) #[false, true, false, false, true, false, false, false, false, false] rfl rfl (any_of HT_.out (by kernel_rfl)) (fun _ _ _ h => h) (Or.inl ⟨by rfl, ?_⟩) ?_ ?_
    rotate_left
    · intro w'
      go_simp
      with_reducible rfl
    rotate_left
    · simp only [Act.put, List.setIfInBounds_toArray, List.set_cons_zero, List.set_cons_succ, i64_w, i32_w]
      rfl
    refine take_ (i := 0) (N := some 68) (v := ?_) (a' := ?_) #[true, true, false, false, true, false, false, false, false, false] rfl rfl (take_ofW HT_.out HW_.out (by kernel_rfl)) (fun _ _ _ h => h) (Or.inl ⟨by rfl, ?_⟩) hHeld ?_ ?_
    rotate_left
    · rintro w' ⟨s0, s1, s2⟩
      go_simp
      with_reducible rfl
    rotate_left
    · simp only [Act.put, List.setIfInBounds_toArray, List.set_cons_zero, List.set_cons_succ, i64_w, i32_w]
      rfl
    refine take_ (i := 3) (N := some 71) (v := ?_) (a' := ?_) #[true, true, false, true, true, false, false, false, false, false] rfl rfl (take_ofW HT_.out HW_.out (by kernel_rfl)) (fun _ _ _ h => h) (Or.inl ⟨by rfl, ?_⟩) hHeld ?_ ?_
    rotate_left
    · rintro w' ⟨s0, s1, s2⟩
      go_simp
      with_reducible rfl
    rotate_left
    · simp only [Act.put, List.setIfInBounds_toArray, List.set_cons_zero, List.set_cons_succ, i64_w, i32_w]
      rfl
    refine join_ (σ := Nat × Nat) 2 #[true, true, true, true, true, true, true, true, false, false] (fun s_ => [(70, .agg #[.int .i64 t178, .int .i64 t179, .int .i64 t180]), (73, .agg #[.int .i64 t181, .int .i64 t182, .int .i64 t183]), (10, .pointer (some ⟨s_.1, 0, none⟩)), (11, .pointer (some ⟨s_.2, 0, none⟩))]) (fun s_ w' => (w'.cell? ⟨gb173, 0, none⟩ = some (.int .i64 t169) ∧ w'.cell? ⟨gb173, 1, none⟩ = some (.int .i64 t170) ∧ w'.cell? ⟨gb173, 2, none⟩ = some (.int .i64 t171)) ∧ (w'.heap[gb168]? = some (.cells #[.int .i64 a0_0, .int .i64 a0_1, .int .i64 a0_2, .int .i64 a0_3, .int .i64 a0_4] 57 (0, 0))) ∧ (w'.heap[gb173]? = some (.cells #[.int .i64 t169, .int .i64 t170, .int .i64 t171] 23 (0, 0))) ∧ (w'.heap[s_.1]? = some (.cells #[.int .i64 0, .int .i64 0, .int .i64 0] 52 (0, 0))) ∧ (w'.heap[s_.2]? = some (.cells #[.int .i64 0, .int .i64 0, .int .i64 0] 52 (0, 0))) ∧ (w.heap.size ≤ s_.1) ∧ (w.heap.size ≤ s_.1) ∧ (gb168 ≠ s_.1) ∧ (s_.1 ≠ gb168) ∧ (gb173 ≠ s_.1) ∧ (s_.1 ≠ gb173) ∧ (s_.2 ≠ s_.1) ∧ (s_.1 ≠ s_.2) ∧ (w.heap.size ≤ s_.2) ∧ (w.heap.size ≤ s_.2) ∧ (gb168 ≠ s_.2) ∧ (s_.2 ≠ gb168) ∧ (gb173 ≠ s_.2) ∧ (s_.2 ≠ gb173) ∧ (Below w.heap.size w w')) ?_ ?_
    rotate_left
    · intro hJ2_5_6_7
      refine join_ (σ := Nat) 3 #[true, true, true, true, true, true, true, false, false, false] (fun s_ => [(70, .agg #[.int .i64 t178, .int .i64 t179, .int .i64 t180]), (73, .agg #[.int .i64 t181, .int .i64 t182, .int .i64 t183]), (10, .pointer (some ⟨s_, 0, none⟩))]) (fun s_ w' => (w'.cell? ⟨gb173, 0, none⟩ = some (.int .i64 t169) ∧ w'.cell? ⟨gb173, 1, none⟩ = some (.int .i64 t170) ∧ w'.cell? ⟨gb173, 2, none⟩ = some (.int .i64 t171)) ∧ (w'.heap[gb168]? = some (.cells #[.int .i64 a0_0, .int .i64 a0_1, .int .i64 a0_2, .int .i64 a0_3, .int .i64 a0_4] 57 (0, 0))) ∧ (w'.heap[gb173]? = some (.cells #[.int .i64 t169, .int .i64 t170, .int .i64 t171] 23 (0, 0))) ∧ (w'.heap[s_]? = some (.cells #[.int .i64 0, .int .i64 0, .int .i64 0] 52 (0, 0))) ∧ (w.heap.size ≤ s_) ∧ (w.heap.size ≤ s_) ∧ (gb168 ≠ s_) ∧ (s_ ≠ gb168) ∧ (gb173 ≠ s_) ∧ (s_ ≠ gb173) ∧ (Below w.heap.size w w')) ?_ ?_
      rotate_left
      rotate_left
      · skip
        rintro gb184 w35 ⟨hS_, h0_, h1_, h2_, h3_, h4_, h5_, h6_, h7_, h8_, h9_⟩
        have n0_ : Aside0 (w35.heap[gb168]? = some (.cells #[.int .i64 a0_0, .int .i64 a0_1, .int .i64 a0_2, .int .i64 a0_3, .int .i64 a0_4] 57 (0, 0))) := ⟨h0_⟩
        have n1_ : Aside0 (w35.heap[gb173]? = some (.cells #[.int .i64 t169, .int .i64 t170, .int .i64 t171] 23 (0, 0))) := ⟨h1_⟩
        have n2_ : Aside0 (w35.heap[gb184]? = some (.cells #[.int .i64 0, .int .i64 0, .int .i64 0] 52 (0, 0))) := ⟨h2_⟩
        have n3_ : Aside0 (w.heap.size ≤ gb184) := ⟨h3_⟩
        have n4_ : Aside0 (w.heap.size ≤ gb184) := ⟨h4_⟩
        have n5_ : Aside0 (gb168 ≠ gb184) := ⟨h5_⟩
        have n6_ : Aside0 (gb184 ≠ gb168) := ⟨h6_⟩
        have n7_ : Aside0 (gb173 ≠ gb184) := ⟨h7_⟩
        have n8_ : Aside0 (gb184 ≠ gb173) := ⟨h8_⟩
        have n9_ : Aside0 (Below w.heap.size w w35) := ⟨h9_⟩
        clear BK168
        clear BK173
        clear HB
        clear h0_ h1_ h2_ h3_ h4_ h5_ h6_ h7_ h8_ h9_
        have BK168 := n0_
        have BK173 := n1_
        have BK184 := n2_
        have GW184 := n3_
        have GE184 := n4_
        have NB168_184 := n5_
        have NB184_168 := n6_
        have NB173_184 := n7_
        have NB184_173 := n8_
        have HB := n9_
        clear n0_ n1_ n2_ n3_ n4_ n5_ n6_ n7_ n8_ n9_
        have hHeld : w35.cell? ⟨gb173, 0, none⟩ = some (.int .i64 t169) ∧ w35.cell? ⟨gb173, 1, none⟩ = some (.int .i64 t170) ∧ w35.cell? ⟨gb173, 2, none⟩ = some (.int .i64 t171) := hS_
        refine norm_ (a' := ?_) ?_ ?_
        rotate_left
        · simp only [putAll, Act.put, sa, sb, sc]
          rfl
        refine one_ (i := 7) (N := some 11) #[true, true, true, true, true, true, true, true, false, false] rfl rfl (one_of HT_.out (by kernel_rfl)) (by decide) (fun K hK => ?_)
        refine box_step ?hg (N := 11) ?hd (cs := #[.int .i64 0, .int .i64 0, .int .i64 0]) (t := 52) ?hr ?_; (case hd => rfl); (case hg => rfl); (case hr => first | (go_simp; done) | (go_simp; rfl))
        intro gb185 hg w36 hbox hb
        have n0_ := Aside0.mk (blk_below (g := gb168) (o := .cells #[.int .i64 a0_0, .int .i64 a0_1, .int .i64 a0_2, .int .i64 a0_3, .int .i64 a0_4] 57 (0, 0)) (pk BK168.out) hb)
        have n1_ := Aside0.mk (blk_below (g := gb173) (o := .cells #[.int .i64 t169, .int .i64 t170, .int .i64 t171] 23 (0, 0)) (pk BK173.out) hb)
        have n2_ := Aside0.mk (blk_below (g := gb184) (o := .cells #[.int .i64 0, .int .i64 0, .int .i64 0] 52 (0, 0)) (pk BK184.out) hb)
        have n3_ := Aside0.mk (below_step (pb HB.out) hb)
        have n4_ := Aside0.mk (hbox)
        have n5_ := Aside0.mk ((by rw [hg]; exact (below_size (pb HB.out)) : w.heap.size ≤ gb185))
        have n6_ := Aside0.mk ((by rw [hg]; exact (below_size (pb HB.out)) : w.heap.size ≤ gb185))
        have n7_ := Aside0.mk ((by rw [hg]; exact Nat.ne_of_lt (blk_lt (g := gb168) (o := .cells #[.int .i64 a0_0, .int .i64 a0_1, .int .i64 a0_2, .int .i64 a0_3, .int .i64 a0_4] 57 (0, 0)) (pk BK168.out)) : gb168 ≠ gb185))
        have n8_ := Aside0.mk ((by rw [hg]; exact Nat.ne_of_gt (blk_lt (g := gb168) (o := .cells #[.int .i64 a0_0, .int .i64 a0_1, .int .i64 a0_2, .int .i64 a0_3, .int .i64 a0_4] 57 (0, 0)) (pk BK168.out)) : gb185 ≠ gb168))
        have n9_ := Aside0.mk ((by rw [hg]; exact Nat.ne_of_lt (blk_lt (g := gb173) (o := .cells #[.int .i64 t169, .int .i64 t170, .int .i64 t171] 23 (0, 0)) (pk BK173.out)) : gb173 ≠ gb185))
        have n10_ := Aside0.mk ((by rw [hg]; exact Nat.ne_of_gt (blk_lt (g := gb173) (o := .cells #[.int .i64 t169, .int .i64 t170, .int .i64 t171] 23 (0, 0)) (pk BK173.out)) : gb185 ≠ gb173))
        have n11_ := Aside0.mk ((by rw [hg]; exact Nat.ne_of_lt (blk_lt (g := gb184) (o := .cells #[.int .i64 0, .int .i64 0, .int .i64 0] 52 (0, 0)) (pk BK184.out)) : gb184 ≠ gb185))
        have n12_ := Aside0.mk ((by rw [hg]; exact Nat.ne_of_gt (blk_lt (g := gb184) (o := .cells #[.int .i64 0, .int .i64 0, .int .i64 0] 52 (0, 0)) (pk BK184.out)) : gb185 ≠ gb184))
        clear BK168
        clear BK173
        clear BK184
        clear HB
        have BK168 := n0_
        have BK173 := n1_
        have BK184 := n2_
        have HB := n3_
        have BK185 := n4_
        have GW185 := n5_
        have GE185 := n6_
        have NB168_185 := n7_
        have NB185_168 := n8_
        have NB173_185 := n9_
        have NB185_173 := n10_
        have NB184_185 := n11_
        have NB185_184 := n12_
        clear n0_ n1_ n2_ n3_ n4_ n5_ n6_ n7_ n8_ n9_ n10_ n11_ n12_
        clear hb hbox hg
        refine hK.out _ _ ⟨(blk_cell BK173.out 0).trans rfl, (blk_cell BK173.out 1).trans rfl, (blk_cell BK173.out 2).trans rfl⟩ (fun hHeld => ?_)
        clear hK K
        refine norm_ (a' := ?_) ?_ ?_
        rotate_left
        · show Act.put _ (some 11) _ = _
          simp only [Act.put, List.setIfInBounds_toArray, List.set_cons_zero, List.set_cons_succ, i64_w, i32_w]
          rfl
        exact nm (hJ2_5_6_7 (gb184, gb185) _ ⟨hHeld, (pk BK168.out), (pk BK173.out), (pk BK184.out), (pk BK185.out), GW184.out, GE184.out, NB168_184.out, NB184_168.out, NB173_184.out, NB184_173.out, NB185_184.out, NB184_185.out, GW185.out, GE185.out, NB168_185.out, NB185_168.out, NB173_185.out, NB185_173.out, (pb HB.out)⟩)
      intro hJ2_5_6
      refine join_ (σ := Nat) 3 #[true, true, true, true, true, true, false, true, false, false] (fun s_ => [(70, .agg #[.int .i64 t178, .int .i64 t179, .int .i64 t180]), (73, .agg #[.int .i64 t181, .int .i64 t182, .int .i64 t183]), (11, .pointer (some ⟨s_, 0, none⟩))]) (fun s_ w' => (w'.cell? ⟨gb173, 0, none⟩ = some (.int .i64 t169) ∧ w'.cell? ⟨gb173, 1, none⟩ = some (.int .i64 t170) ∧ w'.cell? ⟨gb173, 2, none⟩ = some (.int .i64 t171)) ∧ (w'.heap[gb168]? = some (.cells #[.int .i64 a0_0, .int .i64 a0_1, .int .i64 a0_2, .int .i64 a0_3, .int .i64 a0_4] 57 (0, 0))) ∧ (w'.heap[gb173]? = some (.cells #[.int .i64 t169, .int .i64 t170, .int .i64 t171] 23 (0, 0))) ∧ (w'.heap[s_]? = some (.cells #[.int .i64 0, .int .i64 0, .int .i64 0] 52 (0, 0))) ∧ (w.heap.size ≤ s_) ∧ (w.heap.size ≤ s_) ∧ (gb168 ≠ s_) ∧ (s_ ≠ gb168) ∧ (gb173 ≠ s_) ∧ (s_ ≠ gb173) ∧ (Below w.heap.size w w')) ?_ ?_
      rotate_left
      rotate_left
      · skip
        rintro gb185 w35 ⟨hS_, h0_, h1_, h2_, h3_, h4_, h5_, h6_, h7_, h8_, h9_⟩
        have n0_ : Aside0 (w35.heap[gb168]? = some (.cells #[.int .i64 a0_0, .int .i64 a0_1, .int .i64 a0_2, .int .i64 a0_3, .int .i64 a0_4] 57 (0, 0))) := ⟨h0_⟩
        have n1_ : Aside0 (w35.heap[gb173]? = some (.cells #[.int .i64 t169, .int .i64 t170, .int .i64 t171] 23 (0, 0))) := ⟨h1_⟩
        have n2_ : Aside0 (w35.heap[gb185]? = some (.cells #[.int .i64 0, .int .i64 0, .int .i64 0] 52 (0, 0))) := ⟨h2_⟩
        have n3_ : Aside0 (w.heap.size ≤ gb185) := ⟨h3_⟩
        have n4_ : Aside0 (w.heap.size ≤ gb185) := ⟨h4_⟩
        have n5_ : Aside0 (gb168 ≠ gb185) := ⟨h5_⟩
        have n6_ : Aside0 (gb185 ≠ gb168) := ⟨h6_⟩
        have n7_ : Aside0 (gb173 ≠ gb185) := ⟨h7_⟩
        have n8_ : Aside0 (gb185 ≠ gb173) := ⟨h8_⟩
        have n9_ : Aside0 (Below w.heap.size w w35) := ⟨h9_⟩
        clear BK168
        clear BK173
        clear HB
        clear h0_ h1_ h2_ h3_ h4_ h5_ h6_ h7_ h8_ h9_
        have BK168 := n0_
        have BK173 := n1_
        have BK185 := n2_
        have GW185 := n3_
        have GE185 := n4_
        have NB168_185 := n5_
        have NB185_168 := n6_
        have NB173_185 := n7_
        have NB185_173 := n8_
        have HB := n9_
        clear n0_ n1_ n2_ n3_ n4_ n5_ n6_ n7_ n8_ n9_
        have hHeld : w35.cell? ⟨gb173, 0, none⟩ = some (.int .i64 t169) ∧ w35.cell? ⟨gb173, 1, none⟩ = some (.int .i64 t170) ∧ w35.cell? ⟨gb173, 2, none⟩ = some (.int .i64 t171) := hS_
        refine norm_ (a' := ?_) ?_ ?_
        rotate_left
        · simp only [putAll, Act.put, sa, sb, sc]
          rfl
        refine one_ (i := 6) (N := some 10) #[true, true, true, true, true, true, true, true, false, false] rfl rfl (one_of HT_.out (by kernel_rfl)) (by decide) (fun K hK => ?_)
        refine box_step ?hg (N := 10) ?hd (cs := #[.int .i64 0, .int .i64 0, .int .i64 0]) (t := 52) ?hr ?_; (case hd => rfl); (case hg => rfl); (case hr => first | (go_simp; done) | (go_simp; rfl))
        intro gb184 hg w36 hbox hb
        have n0_ := Aside0.mk (blk_below (g := gb168) (o := .cells #[.int .i64 a0_0, .int .i64 a0_1, .int .i64 a0_2, .int .i64 a0_3, .int .i64 a0_4] 57 (0, 0)) (pk BK168.out) hb)
        have n1_ := Aside0.mk (blk_below (g := gb173) (o := .cells #[.int .i64 t169, .int .i64 t170, .int .i64 t171] 23 (0, 0)) (pk BK173.out) hb)
        have n2_ := Aside0.mk (blk_below (g := gb185) (o := .cells #[.int .i64 0, .int .i64 0, .int .i64 0] 52 (0, 0)) (pk BK185.out) hb)
        have n3_ := Aside0.mk (below_step (pb HB.out) hb)
        have n4_ := Aside0.mk (hbox)
        have n5_ := Aside0.mk ((by rw [hg]; exact (below_size (pb HB.out)) : w.heap.size ≤ gb184))
        have n6_ := Aside0.mk ((by rw [hg]; exact (below_size (pb HB.out)) : w.heap.size ≤ gb184))
        have n7_ := Aside0.mk ((by rw [hg]; exact Nat.ne_of_lt (blk_lt (g := gb168) (o := .cells #[.int .i64 a0_0, .int .i64 a0_1, .int .i64 a0_2, .int .i64 a0_3, .int .i64 a0_4] 57 (0, 0)) (pk BK168.out)) : gb168 ≠ gb184))
        have n8_ := Aside0.mk ((by rw [hg]; exact Nat.ne_of_gt (blk_lt (g := gb168) (o := .cells #[.int .i64 a0_0, .int .i64 a0_1, .int .i64 a0_2, .int .i64 a0_3, .int .i64 a0_4] 57 (0, 0)) (pk BK168.out)) : gb184 ≠ gb168))
        have n9_ := Aside0.mk ((by rw [hg]; exact Nat.ne_of_lt (blk_lt (g := gb173) (o := .cells #[.int .i64 t169, .int .i64 t170, .int .i64 t171] 23 (0, 0)) (pk BK173.out)) : gb173 ≠ gb184))
        have n10_ := Aside0.mk ((by rw [hg]; exact Nat.ne_of_gt (blk_lt (g := gb173) (o := .cells #[.int .i64 t169, .int .i64 t170, .int .i64 t171] 23 (0, 0)) (pk BK173.out)) : gb184 ≠ gb173))
        have n11_ := Aside0.mk ((by rw [hg]; exact Nat.ne_of_lt (blk_lt (g := gb185) (o := .cells #[.int .i64 0, .int .i64 0, .int .i64 0] 52 (0, 0)) (pk BK185.out)) : gb185 ≠ gb184))
        have n12_ := Aside0.mk ((by rw [hg]; exact Nat.ne_of_gt (blk_lt (g := gb185) (o := .cells #[.int .i64 0, .int .i64 0, .int .i64 0] 52 (0, 0)) (pk BK185.out)) : gb184 ≠ gb185))
        clear BK168
        clear BK173
        clear BK185
        clear HB
        have BK168 := n0_
        have BK173 := n1_
        have BK185 := n2_
        have HB := n3_
        have BK184 := n4_
        have GW184 := n5_
        have GE184 := n6_
        have NB168_184 := n7_
        have NB184_168 := n8_
        have NB173_184 := n9_
        have NB184_173 := n10_
        have NB185_184 := n11_
        have NB184_185 := n12_
        clear n0_ n1_ n2_ n3_ n4_ n5_ n6_ n7_ n8_ n9_ n10_ n11_ n12_
        clear hb hbox hg
        refine hK.out _ _ ⟨(blk_cell BK173.out 0).trans rfl, (blk_cell BK173.out 1).trans rfl, (blk_cell BK173.out 2).trans rfl⟩ (fun hHeld => ?_)
        clear hK K
        refine norm_ (a' := ?_) ?_ ?_
        rotate_left
        · show Act.put _ (some 10) _ = _
          simp only [Act.put, List.setIfInBounds_toArray, List.set_cons_zero, List.set_cons_succ, i64_w, i32_w]
          rfl
        exact nm (hJ2_5_6_7 (gb184, gb185) _ ⟨hHeld, (pk BK168.out), (pk BK173.out), (pk BK184.out), (pk BK185.out), GW184.out, GE184.out, NB168_184.out, NB184_168.out, NB173_184.out, NB184_173.out, NB185_184.out, NB184_185.out, GW185.out, GE185.out, NB168_185.out, NB185_168.out, NB173_185.out, NB185_173.out, (pb HB.out)⟩)
      intro hJ2_5_7
      refine join_ (σ := Nat × Nat) 3 #[true, true, true, true, true, false, true, true, false, false] (fun s_ => [(70, .agg #[.int .i64 t178, .int .i64 t179, .int .i64 t180]), (10, .pointer (some ⟨s_.1, 0, none⟩)), (11, .pointer (some ⟨s_.2, 0, none⟩))]) (fun s_ w' => (w'.cell? ⟨gb173, 0, none⟩ = some (.int .i64 t169) ∧ w'.cell? ⟨gb173, 1, none⟩ = some (.int .i64 t170) ∧ w'.cell? ⟨gb173, 2, none⟩ = some (.int .i64 t171)) ∧ (w'.heap[gb168]? = some (.cells #[.int .i64 a0_0, .int .i64 a0_1, .int .i64 a0_2, .int .i64 a0_3, .int .i64 a0_4] 57 (0, 0))) ∧ (w'.heap[gb173]? = some (.cells #[.int .i64 t169, .int .i64 t170, .int .i64 t171] 23 (0, 0))) ∧ (w'.heap[s_.1]? = some (.cells #[.int .i64 0, .int .i64 0, .int .i64 0] 52 (0, 0))) ∧ (w'.heap[s_.2]? = some (.cells #[.int .i64 0, .int .i64 0, .int .i64 0] 52 (0, 0))) ∧ (w.heap.size ≤ s_.1) ∧ (w.heap.size ≤ s_.1) ∧ (gb168 ≠ s_.1) ∧ (s_.1 ≠ gb168) ∧ (gb173 ≠ s_.1) ∧ (s_.1 ≠ gb173) ∧ (s_.2 ≠ s_.1) ∧ (s_.1 ≠ s_.2) ∧ (w.heap.size ≤ s_.2) ∧ (w.heap.size ≤ s_.2) ∧ (gb168 ≠ s_.2) ∧ (s_.2 ≠ gb168) ∧ (gb173 ≠ s_.2) ∧ (s_.2 ≠ gb173) ∧ (Below w.heap.size w w')) ?_ ?_
      rotate_left
      rotate_left
      · skip
        rintro ⟨gb184, gb185⟩ w35 ⟨hS_, h0_, h1_, h2_, h3_, h4_, h5_, h6_, h7_, h8_, h9_, h10_, h11_, h12_, h13_, h14_, h15_, h16_, h17_, h18_⟩
        have n0_ : Aside0 (w35.heap[gb168]? = some (.cells #[.int .i64 a0_0, .int .i64 a0_1, .int .i64 a0_2, .int .i64 a0_3, .int .i64 a0_4] 57 (0, 0))) := ⟨h0_⟩
        have n1_ : Aside0 (w35.heap[gb173]? = some (.cells #[.int .i64 t169, .int .i64 t170, .int .i64 t171] 23 (0, 0))) := ⟨h1_⟩
        have n2_ : Aside0 (w35.heap[gb184]? = some (.cells #[.int .i64 0, .int .i64 0, .int .i64 0] 52 (0, 0))) := ⟨h2_⟩
        have n3_ : Aside0 (w35.heap[gb185]? = some (.cells #[.int .i64 0, .int .i64 0, .int .i64 0] 52 (0, 0))) := ⟨h3_⟩
        have n4_ : Aside0 (w.heap.size ≤ gb184) := ⟨h4_⟩
        have n5_ : Aside0 (w.heap.size ≤ gb184) := ⟨h5_⟩
        have n6_ : Aside0 (gb168 ≠ gb184) := ⟨h6_⟩
        have n7_ : Aside0 (gb184 ≠ gb168) := ⟨h7_⟩
        have n8_ : Aside0 (gb173 ≠ gb184) := ⟨h8_⟩
        have n9_ : Aside0 (gb184 ≠ gb173) := ⟨h9_⟩
        have n10_ : Aside0 (gb185 ≠ gb184) := ⟨h10_⟩
        have n11_ : Aside0 (gb184 ≠ gb185) := ⟨h11_⟩
        have n12_ : Aside0 (w.heap.size ≤ gb185) := ⟨h12_⟩
        have n13_ : Aside0 (w.heap.size ≤ gb185) := ⟨h13_⟩
        have n14_ : Aside0 (gb168 ≠ gb185) := ⟨h14_⟩
        have n15_ : Aside0 (gb185 ≠ gb168) := ⟨h15_⟩
        have n16_ : Aside0 (gb173 ≠ gb185) := ⟨h16_⟩
        have n17_ : Aside0 (gb185 ≠ gb173) := ⟨h17_⟩
        have n18_ : Aside0 (Below w.heap.size w w35) := ⟨h18_⟩
        clear BK168
        clear BK173
        clear HB
        clear h0_ h1_ h2_ h3_ h4_ h5_ h6_ h7_ h8_ h9_ h10_ h11_ h12_ h13_ h14_ h15_ h16_ h17_ h18_
        have BK168 := n0_
        have BK173 := n1_
        have BK184 := n2_
        have BK185 := n3_
        have GW184 := n4_
        have GE184 := n5_
        have NB168_184 := n6_
        have NB184_168 := n7_
        have NB173_184 := n8_
        have NB184_173 := n9_
        have NB185_184 := n10_
        have NB184_185 := n11_
        have GW185 := n12_
        have GE185 := n13_
        have NB168_185 := n14_
        have NB185_168 := n15_
        have NB173_185 := n16_
        have NB185_173 := n17_
        have HB := n18_
        clear n0_ n1_ n2_ n3_ n4_ n5_ n6_ n7_ n8_ n9_ n10_ n11_ n12_ n13_ n14_ n15_ n16_ n17_ n18_
        have hHeld : w35.cell? ⟨gb173, 0, none⟩ = some (.int .i64 t169) ∧ w35.cell? ⟨gb173, 1, none⟩ = some (.int .i64 t170) ∧ w35.cell? ⟨gb173, 2, none⟩ = some (.int .i64 t171) := hS_
        refine norm_ (a' := ?_) ?_ ?_
        rotate_left
        · simp only [putAll, Act.put, sa, sb, sc]
          rfl
        refine one_ (i := 5) (N := some 73) #[true, true, true, true, true, true, true, true, false, false] rfl rfl (one_of HT_.out (by kernel_rfl)) (by decide) (fun K hK => ?_)
        refine goes_ Try.func32 (by kernel_rfl) rfl #[.agg #[.int .i64 t169, .int .i64 t170, .int .i64 t171], .int .i64 (wrap64 (Int.tmod (IntKind.u64.wrap (a0_4)) (IntKind.u64.wrap (t176))))] (by rfl) rfl rfl (by (try simp only [List.map_toArray, List.map_cons, List.map_nil]); first | done | rfl | (simp only [List.length_drop, List.length_take]; rfl)) ?_
        with_reducible refine (layout_Plan_Find.calls kj2 t169 t170 t171 (wrap64 (Int.tmod (IntKind.u64.wrap (a0_4)) (IntKind.u64.wrap (t176)))) t181 t182 t183 _ A26.out).mono ?_
        rintro e w36 ⟨rfl, hb⟩
        refine ⟨_, rfl, ?_⟩
        have n0_ := Aside0.mk (blk_below (g := gb168) (o := .cells #[.int .i64 a0_0, .int .i64 a0_1, .int .i64 a0_2, .int .i64 a0_3, .int .i64 a0_4] 57 (0, 0)) (pk BK168.out) hb)
        have n1_ := Aside0.mk (blk_below (g := gb173) (o := .cells #[.int .i64 t169, .int .i64 t170, .int .i64 t171] 23 (0, 0)) (pk BK173.out) hb)
        have n2_ := Aside0.mk (blk_below (g := gb184) (o := .cells #[.int .i64 0, .int .i64 0, .int .i64 0] 52 (0, 0)) (pk BK184.out) hb)
        have n3_ := Aside0.mk (blk_below (g := gb185) (o := .cells #[.int .i64 0, .int .i64 0, .int .i64 0] 52 (0, 0)) (pk BK185.out) hb)
        have n4_ := Aside0.mk (below_step (pb HB.out) hb)
        clear BK168
        clear BK173
        clear BK184
        clear BK185
        clear HB
        have BK168 := n0_
        have BK173 := n1_
        have BK184 := n2_
        have BK185 := n3_
        have HB := n4_
        clear n0_ n1_ n2_ n3_ n4_
        (try clear hb)
        (try clear hb2)
        (try clear hk)
        (try clear hi)
        refine hK.out _ _ ⟨(blk_cell BK173.out 0).trans rfl, (blk_cell BK173.out 1).trans rfl, (blk_cell BK173.out 2).trans rfl⟩ (fun hHeld => ?_)
        clear hK K
        refine norm_ (a' := ?_) ?_ ?_
        rotate_left
        · show Act.put _ (some 73) _ = _
          simp only [Act.put, List.setIfInBounds_toArray, List.set_cons_zero, List.set_cons_succ, i64_w, i32_w]
          rfl
        exact nm (hJ2_5_6_7 (gb184, gb185) _ ⟨hHeld, (pk BK168.out), (pk BK173.out), (pk BK184.out), (pk BK185.out), GW184.out, GE184.out, NB168_184.out, NB184_168.out, NB173_184.out, NB184_173.out, NB185_184.out, NB184_185.out, GW185.out, GE185.out, NB168_185.out, NB185_168.out, NB173_185.out, NB185_173.out, (pb HB.out)⟩)
      intro hJ2_6_7
      refine join_ (σ := Unit) 4 #[true, true, true, true, true, true, false, false, false, false] (fun s_ => [(70, .agg #[.int .i64 t178, .int .i64 t179, .int .i64 t180]), (73, .agg #[.int .i64 t181, .int .i64 t182, .int .i64 t183])]) (fun s_ w' => (w'.cell? ⟨gb173, 0, none⟩ = some (.int .i64 t169) ∧ w'.cell? ⟨gb173, 1, none⟩ = some (.int .i64 t170) ∧ w'.cell? ⟨gb173, 2, none⟩ = some (.int .i64 t171)) ∧ (w'.heap[gb168]? = some (.cells #[.int .i64 a0_0, .int .i64 a0_1, .int .i64 a0_2, .int .i64 a0_3, .int .i64 a0_4] 57 (0, 0))) ∧ (w'.heap[gb173]? = some (.cells #[.int .i64 t169, .int .i64 t170, .int .i64 t171] 23 (0, 0))) ∧ (Below w.heap.size w w')) ?_ ?_
      rotate_left
      rotate_left
      · skip
        rintro _ w34 ⟨hS_, h0_, h1_, h2_⟩
        have n0_ : Aside0 (w34.heap[gb168]? = some (.cells #[.int .i64 a0_0, .int .i64 a0_1, .int .i64 a0_2, .int .i64 a0_3, .int .i64 a0_4] 57 (0, 0))) := ⟨h0_⟩
        have n1_ : Aside0 (w34.heap[gb173]? = some (.cells #[.int .i64 t169, .int .i64 t170, .int .i64 t171] 23 (0, 0))) := ⟨h1_⟩
        have n2_ : Aside0 (Below w.heap.size w w34) := ⟨h2_⟩
        clear BK168
        clear BK173
        clear HB
        clear h0_ h1_ h2_
        have BK168 := n0_
        have BK173 := n1_
        have HB := n2_
        clear n0_ n1_ n2_
        have hHeld : w34.cell? ⟨gb173, 0, none⟩ = some (.int .i64 t169) ∧ w34.cell? ⟨gb173, 1, none⟩ = some (.int .i64 t170) ∧ w34.cell? ⟨gb173, 2, none⟩ = some (.int .i64 t171) := hS_
        refine norm_ (a' := ?_) ?_ ?_
        rotate_left
        · simp only [putAll, Act.put, sa, sb, sc]
          rfl
        refine two_ (i := 6) (j := 7) (Ni := some 10) (Nj := some 11) #[true, true, true, true, true, true, true, false, false, false] #[true, true, true, true, true, true, false, true, false, false] rfl rfl rfl rfl (two_of HT_.out (by kernel_rfl)) (by decide) (by decide) (fun K hK => ?_) (fun K hK => ?_)
        · skip
          refine box_step ?hg (N := 10) ?hd (cs := #[.int .i64 0, .int .i64 0, .int .i64 0]) (t := 52) ?hr ?_; (case hd => rfl); (case hg => rfl); (case hr => first | (go_simp; done) | (go_simp; rfl))
          intro gb184 hg w35 hbox hb
          have n0_ := Aside0.mk (blk_below (g := gb168) (o := .cells #[.int .i64 a0_0, .int .i64 a0_1, .int .i64 a0_2, .int .i64 a0_3, .int .i64 a0_4] 57 (0, 0)) (pk BK168.out) hb)
          have n1_ := Aside0.mk (blk_below (g := gb173) (o := .cells #[.int .i64 t169, .int .i64 t170, .int .i64 t171] 23 (0, 0)) (pk BK173.out) hb)
          have n2_ := Aside0.mk (below_step (pb HB.out) hb)
          have n3_ := Aside0.mk (hbox)
          have n4_ := Aside0.mk ((by rw [hg]; exact (below_size (pb HB.out)) : w.heap.size ≤ gb184))
          have n5_ := Aside0.mk ((by rw [hg]; exact (below_size (pb HB.out)) : w.heap.size ≤ gb184))
          have n6_ := Aside0.mk ((by rw [hg]; exact Nat.ne_of_lt (blk_lt (g := gb168) (o := .cells #[.int .i64 a0_0, .int .i64 a0_1, .int .i64 a0_2, .int .i64 a0_3, .int .i64 a0_4] 57 (0, 0)) (pk BK168.out)) : gb168 ≠ gb184))
          have n7_ := Aside0.mk ((by rw [hg]; exact Nat.ne_of_gt (blk_lt (g := gb168) (o := .cells #[.int .i64 a0_0, .int .i64 a0_1, .int .i64 a0_2, .int .i64 a0_3, .int .i64 a0_4] 57 (0, 0)) (pk BK168.out)) : gb184 ≠ gb168))
          have n8_ := Aside0.mk ((by rw [hg]; exact Nat.ne_of_lt (blk_lt (g := gb173) (o := .cells #[.int .i64 t169, .int .i64 t170, .int .i64 t171] 23 (0, 0)) (pk BK173.out)) : gb173 ≠ gb184))
          have n9_ := Aside0.mk ((by rw [hg]; exact Nat.ne_of_gt (blk_lt (g := gb173) (o := .cells #[.int .i64 t169, .int .i64 t170, .int .i64 t171] 23 (0, 0)) (pk BK173.out)) : gb184 ≠ gb173))
          clear BK168
          clear BK173
          clear HB
          have BK168 := n0_
          have BK173 := n1_
          have HB := n2_
          have BK184 := n3_
          have GW184 := n4_
          have GE184 := n5_
          have NB168_184 := n6_
          have NB184_168 := n7_
          have NB173_184 := n8_
          have NB184_173 := n9_
          clear n0_ n1_ n2_ n3_ n4_ n5_ n6_ n7_ n8_ n9_
          clear hb hbox hg
          refine hK.out _ _ ⟨(blk_cell BK173.out 0).trans rfl, (blk_cell BK173.out 1).trans rfl, (blk_cell BK173.out 2).trans rfl⟩ (fun hHeld => ?_)
          clear hK K
          refine norm_ (a' := ?_) ?_ ?_
          rotate_left
          · show Act.put _ (some 10) _ = _
            simp only [Act.put, List.setIfInBounds_toArray, List.set_cons_zero, List.set_cons_succ, i64_w, i32_w]
            rfl
          exact nm (hJ2_5_6 (gb184) _ ⟨hHeld, (pk BK168.out), (pk BK173.out), (pk BK184.out), GW184.out, GE184.out, NB168_184.out, NB184_168.out, NB173_184.out, NB184_173.out, (pb HB.out)⟩)
        skip
        refine box_step ?hg (N := 11) ?hd (cs := #[.int .i64 0, .int .i64 0, .int .i64 0]) (t := 52) ?hr ?_; (case hd => rfl); (case hg => rfl); (case hr => first | (go_simp; done) | (go_simp; rfl))
        intro gb185 hg w35 hbox hb
        have n0_ := Aside0.mk (blk_below (g := gb168) (o := .cells #[.int .i64 a0_0, .int .i64 a0_1, .int .i64 a0_2, .int .i64 a0_3, .int .i64 a0_4] 57 (0, 0)) (pk BK168.out) hb)
        have n1_ := Aside0.mk (blk_below (g := gb173) (o := .cells #[.int .i64 t169, .int .i64 t170, .int .i64 t171] 23 (0, 0)) (pk BK173.out) hb)
        have n2_ := Aside0.mk (below_step (pb HB.out) hb)
        have n3_ := Aside0.mk (hbox)
        have n4_ := Aside0.mk ((by rw [hg]; exact (below_size (pb HB.out)) : w.heap.size ≤ gb185))
        have n5_ := Aside0.mk ((by rw [hg]; exact (below_size (pb HB.out)) : w.heap.size ≤ gb185))
        have n6_ := Aside0.mk ((by rw [hg]; exact Nat.ne_of_lt (blk_lt (g := gb168) (o := .cells #[.int .i64 a0_0, .int .i64 a0_1, .int .i64 a0_2, .int .i64 a0_3, .int .i64 a0_4] 57 (0, 0)) (pk BK168.out)) : gb168 ≠ gb185))
        have n7_ := Aside0.mk ((by rw [hg]; exact Nat.ne_of_gt (blk_lt (g := gb168) (o := .cells #[.int .i64 a0_0, .int .i64 a0_1, .int .i64 a0_2, .int .i64 a0_3, .int .i64 a0_4] 57 (0, 0)) (pk BK168.out)) : gb185 ≠ gb168))
        have n8_ := Aside0.mk ((by rw [hg]; exact Nat.ne_of_lt (blk_lt (g := gb173) (o := .cells #[.int .i64 t169, .int .i64 t170, .int .i64 t171] 23 (0, 0)) (pk BK173.out)) : gb173 ≠ gb185))
        have n9_ := Aside0.mk ((by rw [hg]; exact Nat.ne_of_gt (blk_lt (g := gb173) (o := .cells #[.int .i64 t169, .int .i64 t170, .int .i64 t171] 23 (0, 0)) (pk BK173.out)) : gb185 ≠ gb173))
        clear BK168
        clear BK173
        clear HB
        have BK168 := n0_
        have BK173 := n1_
        have HB := n2_
        have BK185 := n3_
        have GW185 := n4_
        have GE185 := n5_
        have NB168_185 := n6_
        have NB185_168 := n7_
        have NB173_185 := n8_
        have NB185_173 := n9_
        clear n0_ n1_ n2_ n3_ n4_ n5_ n6_ n7_ n8_ n9_
        clear hb hbox hg
        refine hK.out _ _ ⟨(blk_cell BK173.out 0).trans rfl, (blk_cell BK173.out 1).trans rfl, (blk_cell BK173.out 2).trans rfl⟩ (fun hHeld => ?_)
        clear hK K
        refine norm_ (a' := ?_) ?_ ?_
        rotate_left
        · show Act.put _ (some 11) _ = _
          simp only [Act.put, List.setIfInBounds_toArray, List.set_cons_zero, List.set_cons_succ, i64_w, i32_w]
          rfl
        exact nm (hJ2_5_7 (gb185) _ ⟨hHeld, (pk BK168.out), (pk BK173.out), (pk BK185.out), GW185.out, GE185.out, NB168_185.out, NB185_168.out, NB173_185.out, NB185_173.out, (pb HB.out)⟩)
      intro hJ2_5
      refine join_ (σ := Nat) 4 #[true, true, true, true, true, false, true, false, false, false] (fun s_ => [(70, .agg #[.int .i64 t178, .int .i64 t179, .int .i64 t180]), (10, .pointer (some ⟨s_, 0, none⟩))]) (fun s_ w' => (w'.cell? ⟨gb173, 0, none⟩ = some (.int .i64 t169) ∧ w'.cell? ⟨gb173, 1, none⟩ = some (.int .i64 t170) ∧ w'.cell? ⟨gb173, 2, none⟩ = some (.int .i64 t171)) ∧ (w'.heap[gb168]? = some (.cells #[.int .i64 a0_0, .int .i64 a0_1, .int .i64 a0_2, .int .i64 a0_3, .int .i64 a0_4] 57 (0, 0))) ∧ (w'.heap[gb173]? = some (.cells #[.int .i64 t169, .int .i64 t170, .int .i64 t171] 23 (0, 0))) ∧ (w'.heap[s_]? = some (.cells #[.int .i64 0, .int .i64 0, .int .i64 0] 52 (0, 0))) ∧ (w.heap.size ≤ s_) ∧ (w.heap.size ≤ s_) ∧ (gb168 ≠ s_) ∧ (s_ ≠ gb168) ∧ (gb173 ≠ s_) ∧ (s_ ≠ gb173) ∧ (Below w.heap.size w w')) ?_ ?_
      rotate_left
      rotate_left
      · skip
        rintro gb184 w34 ⟨hS_, h0_, h1_, h2_, h3_, h4_, h5_, h6_, h7_, h8_, h9_⟩
        have n0_ : Aside0 (w34.heap[gb168]? = some (.cells #[.int .i64 a0_0, .int .i64 a0_1, .int .i64 a0_2, .int .i64 a0_3, .int .i64 a0_4] 57 (0, 0))) := ⟨h0_⟩
        have n1_ : Aside0 (w34.heap[gb173]? = some (.cells #[.int .i64 t169, .int .i64 t170, .int .i64 t171] 23 (0, 0))) := ⟨h1_⟩
        have n2_ : Aside0 (w34.heap[gb184]? = some (.cells #[.int .i64 0, .int .i64 0, .int .i64 0] 52 (0, 0))) := ⟨h2_⟩
        have n3_ : Aside0 (w.heap.size ≤ gb184) := ⟨h3_⟩
        have n4_ : Aside0 (w.heap.size ≤ gb184) := ⟨h4_⟩
        have n5_ : Aside0 (gb168 ≠ gb184) := ⟨h5_⟩
        have n6_ : Aside0 (gb184 ≠ gb168) := ⟨h6_⟩
        have n7_ : Aside0 (gb173 ≠ gb184) := ⟨h7_⟩
        have n8_ : Aside0 (gb184 ≠ gb173) := ⟨h8_⟩
        have n9_ : Aside0 (Below w.heap.size w w34) := ⟨h9_⟩
        clear BK168
        clear BK173
        clear HB
        clear h0_ h1_ h2_ h3_ h4_ h5_ h6_ h7_ h8_ h9_
        have BK168 := n0_
        have BK173 := n1_
        have BK184 := n2_
        have GW184 := n3_
        have GE184 := n4_
        have NB168_184 := n5_
        have NB184_168 := n6_
        have NB173_184 := n7_
        have NB184_173 := n8_
        have HB := n9_
        clear n0_ n1_ n2_ n3_ n4_ n5_ n6_ n7_ n8_ n9_
        have hHeld : w34.cell? ⟨gb173, 0, none⟩ = some (.int .i64 t169) ∧ w34.cell? ⟨gb173, 1, none⟩ = some (.int .i64 t170) ∧ w34.cell? ⟨gb173, 2, none⟩ = some (.int .i64 t171) := hS_
        refine norm_ (a' := ?_) ?_ ?_
        rotate_left
        · simp only [putAll, Act.put, sa, sb, sc]
          rfl
        refine two_ (i := 5) (j := 7) (Ni := some 73) (Nj := some 11) #[true, true, true, true, true, true, true, false, false, false] #[true, true, true, true, true, false, true, true, false, false] rfl rfl rfl rfl (two_of HT_.out (by kernel_rfl)) (by decide) (by decide) (fun K hK => ?_) (fun K hK => ?_)
        · skip
          refine goes_ Try.func32 (by kernel_rfl) rfl #[.agg #[.int .i64 t169, .int .i64 t170, .int .i64 t171], .int .i64 (wrap64 (Int.tmod (IntKind.u64.wrap (a0_4)) (IntKind.u64.wrap (t176))))] (by rfl) rfl rfl (by (try simp only [List.map_toArray, List.map_cons, List.map_nil]); first | done | rfl | (simp only [List.length_drop, List.length_take]; rfl)) ?_
          with_reducible refine (layout_Plan_Find.calls kj2 t169 t170 t171 (wrap64 (Int.tmod (IntKind.u64.wrap (a0_4)) (IntKind.u64.wrap (t176)))) t181 t182 t183 _ A26.out).mono ?_
          rintro e w35 ⟨rfl, hb⟩
          refine ⟨_, rfl, ?_⟩
          have n0_ := Aside0.mk (blk_below (g := gb168) (o := .cells #[.int .i64 a0_0, .int .i64 a0_1, .int .i64 a0_2, .int .i64 a0_3, .int .i64 a0_4] 57 (0, 0)) (pk BK168.out) hb)
          have n1_ := Aside0.mk (blk_below (g := gb173) (o := .cells #[.int .i64 t169, .int .i64 t170, .int .i64 t171] 23 (0, 0)) (pk BK173.out) hb)
          have n2_ := Aside0.mk (blk_below (g := gb184) (o := .cells #[.int .i64 0, .int .i64 0, .int .i64 0] 52 (0, 0)) (pk BK184.out) hb)
          have n3_ := Aside0.mk (below_step (pb HB.out) hb)
          clear BK168
          clear BK173
          clear BK184
          clear HB
          have BK168 := n0_
          have BK173 := n1_
          have BK184 := n2_
          have HB := n3_
          clear n0_ n1_ n2_ n3_
          (try clear hb)
          (try clear hb2)
          (try clear hk)
          (try clear hi)
          refine hK.out _ _ ⟨(blk_cell BK173.out 0).trans rfl, (blk_cell BK173.out 1).trans rfl, (blk_cell BK173.out 2).trans rfl⟩ (fun hHeld => ?_)
          clear hK K
          refine norm_ (a' := ?_) ?_ ?_
          rotate_left
          · show Act.put _ (some 73) _ = _
            simp only [Act.put, List.setIfInBounds_toArray, List.set_cons_zero, List.set_cons_succ, i64_w, i32_w]
            rfl
          exact nm (hJ2_5_6 (gb184) _ ⟨hHeld, (pk BK168.out), (pk BK173.out), (pk BK184.out), GW184.out, GE184.out, NB168_184.out, NB184_168.out, NB173_184.out, NB184_173.out, (pb HB.out)⟩)
        skip
        refine box_step ?hg (N := 11) ?hd (cs := #[.int .i64 0, .int .i64 0, .int .i64 0]) (t := 52) ?hr ?_; (case hd => rfl); (case hg => rfl); (case hr => first | (go_simp; done) | (go_simp; rfl))
        intro gb185 hg w35 hbox hb
        have n0_ := Aside0.mk (blk_below (g := gb168) (o := .cells #[.int .i64 a0_0, .int .i64 a0_1, .int .i64 a0_2, .int .i64 a0_3, .int .i64 a0_4] 57 (0, 0)) (pk BK168.out) hb)
        have n1_ := Aside0.mk (blk_below (g := gb173) (o := .cells #[.int .i64 t169, .int .i64 t170, .int .i64 t171] 23 (0, 0)) (pk BK173.out) hb)
        have n2_ := Aside0.mk (blk_below (g := gb184) (o := .cells #[.int .i64 0, .int .i64 0, .int .i64 0] 52 (0, 0)) (pk BK184.out) hb)
        have n3_ := Aside0.mk (below_step (pb HB.out) hb)
        have n4_ := Aside0.mk (hbox)
        have n5_ := Aside0.mk ((by rw [hg]; exact (below_size (pb HB.out)) : w.heap.size ≤ gb185))
        have n6_ := Aside0.mk ((by rw [hg]; exact (below_size (pb HB.out)) : w.heap.size ≤ gb185))
        have n7_ := Aside0.mk ((by rw [hg]; exact Nat.ne_of_lt (blk_lt (g := gb168) (o := .cells #[.int .i64 a0_0, .int .i64 a0_1, .int .i64 a0_2, .int .i64 a0_3, .int .i64 a0_4] 57 (0, 0)) (pk BK168.out)) : gb168 ≠ gb185))
        have n8_ := Aside0.mk ((by rw [hg]; exact Nat.ne_of_gt (blk_lt (g := gb168) (o := .cells #[.int .i64 a0_0, .int .i64 a0_1, .int .i64 a0_2, .int .i64 a0_3, .int .i64 a0_4] 57 (0, 0)) (pk BK168.out)) : gb185 ≠ gb168))
        have n9_ := Aside0.mk ((by rw [hg]; exact Nat.ne_of_lt (blk_lt (g := gb173) (o := .cells #[.int .i64 t169, .int .i64 t170, .int .i64 t171] 23 (0, 0)) (pk BK173.out)) : gb173 ≠ gb185))
        have n10_ := Aside0.mk ((by rw [hg]; exact Nat.ne_of_gt (blk_lt (g := gb173) (o := .cells #[.int .i64 t169, .int .i64 t170, .int .i64 t171] 23 (0, 0)) (pk BK173.out)) : gb185 ≠ gb173))
        have n11_ := Aside0.mk ((by rw [hg]; exact Nat.ne_of_lt (blk_lt (g := gb184) (o := .cells #[.int .i64 0, .int .i64 0, .int .i64 0] 52 (0, 0)) (pk BK184.out)) : gb184 ≠ gb185))
        have n12_ := Aside0.mk ((by rw [hg]; exact Nat.ne_of_gt (blk_lt (g := gb184) (o := .cells #[.int .i64 0, .int .i64 0, .int .i64 0] 52 (0, 0)) (pk BK184.out)) : gb185 ≠ gb184))
        clear BK168
        clear BK173
        clear BK184
        clear HB
        have BK168 := n0_
        have BK173 := n1_
        have BK184 := n2_
        have HB := n3_
        have BK185 := n4_
        have GW185 := n5_
        have GE185 := n6_
        have NB168_185 := n7_
        have NB185_168 := n8_
        have NB173_185 := n9_
        have NB185_173 := n10_
        have NB184_185 := n11_
        have NB185_184 := n12_
        clear n0_ n1_ n2_ n3_ n4_ n5_ n6_ n7_ n8_ n9_ n10_ n11_ n12_
        clear hb hbox hg
        refine hK.out _ _ ⟨(blk_cell BK173.out 0).trans rfl, (blk_cell BK173.out 1).trans rfl, (blk_cell BK173.out 2).trans rfl⟩ (fun hHeld => ?_)
        clear hK K
        refine norm_ (a' := ?_) ?_ ?_
        rotate_left
        · show Act.put _ (some 11) _ = _
          simp only [Act.put, List.setIfInBounds_toArray, List.set_cons_zero, List.set_cons_succ, i64_w, i32_w]
          rfl
        exact nm (hJ2_6_7 (gb184, gb185) _ ⟨hHeld, (pk BK168.out), (pk BK173.out), (pk BK184.out), (pk BK185.out), GW184.out, GE184.out, NB168_184.out, NB184_168.out, NB173_184.out, NB184_173.out, NB185_184.out, NB184_185.out, GW185.out, GE185.out, NB168_185.out, NB185_168.out, NB173_185.out, NB185_173.out, (pb HB.out)⟩)
      intro hJ2_6
      refine join_ (σ := Nat) 4 #[true, true, true, true, true, false, false, true, false, false] (fun s_ => [(70, .agg #[.int .i64 t178, .int .i64 t179, .int .i64 t180]), (11, .pointer (some ⟨s_, 0, none⟩))]) (fun s_ w' => (w'.cell? ⟨gb173, 0, none⟩ = some (.int .i64 t169) ∧ w'.cell? ⟨gb173, 1, none⟩ = some (.int .i64 t170) ∧ w'.cell? ⟨gb173, 2, none⟩ = some (.int .i64 t171)) ∧ (w'.heap[gb168]? = some (.cells #[.int .i64 a0_0, .int .i64 a0_1, .int .i64 a0_2, .int .i64 a0_3, .int .i64 a0_4] 57 (0, 0))) ∧ (w'.heap[gb173]? = some (.cells #[.int .i64 t169, .int .i64 t170, .int .i64 t171] 23 (0, 0))) ∧ (w'.heap[s_]? = some (.cells #[.int .i64 0, .int .i64 0, .int .i64 0] 52 (0, 0))) ∧ (w.heap.size ≤ s_) ∧ (w.heap.size ≤ s_) ∧ (gb168 ≠ s_) ∧ (s_ ≠ gb168) ∧ (gb173 ≠ s_) ∧ (s_ ≠ gb173) ∧ (Below w.heap.size w w')) ?_ ?_
      rotate_left
      rotate_left
      · skip
        rintro gb185 w34 ⟨hS_, h0_, h1_, h2_, h3_, h4_, h5_, h6_, h7_, h8_, h9_⟩
        have n0_ : Aside0 (w34.heap[gb168]? = some (.cells #[.int .i64 a0_0, .int .i64 a0_1, .int .i64 a0_2, .int .i64 a0_3, .int .i64 a0_4] 57 (0, 0))) := ⟨h0_⟩
        have n1_ : Aside0 (w34.heap[gb173]? = some (.cells #[.int .i64 t169, .int .i64 t170, .int .i64 t171] 23 (0, 0))) := ⟨h1_⟩
        have n2_ : Aside0 (w34.heap[gb185]? = some (.cells #[.int .i64 0, .int .i64 0, .int .i64 0] 52 (0, 0))) := ⟨h2_⟩
        have n3_ : Aside0 (w.heap.size ≤ gb185) := ⟨h3_⟩
        have n4_ : Aside0 (w.heap.size ≤ gb185) := ⟨h4_⟩
        have n5_ : Aside0 (gb168 ≠ gb185) := ⟨h5_⟩
        have n6_ : Aside0 (gb185 ≠ gb168) := ⟨h6_⟩
        have n7_ : Aside0 (gb173 ≠ gb185) := ⟨h7_⟩
        have n8_ : Aside0 (gb185 ≠ gb173) := ⟨h8_⟩
        have n9_ : Aside0 (Below w.heap.size w w34) := ⟨h9_⟩
        clear BK168
        clear BK173
        clear HB
        clear h0_ h1_ h2_ h3_ h4_ h5_ h6_ h7_ h8_ h9_
        have BK168 := n0_
        have BK173 := n1_
        have BK185 := n2_
        have GW185 := n3_
        have GE185 := n4_
        have NB168_185 := n5_
        have NB185_168 := n6_
        have NB173_185 := n7_
        have NB185_173 := n8_
        have HB := n9_
        clear n0_ n1_ n2_ n3_ n4_ n5_ n6_ n7_ n8_ n9_
        have hHeld : w34.cell? ⟨gb173, 0, none⟩ = some (.int .i64 t169) ∧ w34.cell? ⟨gb173, 1, none⟩ = some (.int .i64 t170) ∧ w34.cell? ⟨gb173, 2, none⟩ = some (.int .i64 t171) := hS_
        refine norm_ (a' := ?_) ?_ ?_
        rotate_left
        · simp only [putAll, Act.put, sa, sb, sc]
          rfl
        refine two_ (i := 5) (j := 6) (Ni := some 73) (Nj := some 10) #[true, true, true, true, true, true, false, true, false, false] #[true, true, true, true, true, false, true, true, false, false] rfl rfl rfl rfl (two_of HT_.out (by kernel_rfl)) (by decide) (by decide) (fun K hK => ?_) (fun K hK => ?_)
        · skip
          refine goes_ Try.func32 (by kernel_rfl) rfl #[.agg #[.int .i64 t169, .int .i64 t170, .int .i64 t171], .int .i64 (wrap64 (Int.tmod (IntKind.u64.wrap (a0_4)) (IntKind.u64.wrap (t176))))] (by rfl) rfl rfl (by (try simp only [List.map_toArray, List.map_cons, List.map_nil]); first | done | rfl | (simp only [List.length_drop, List.length_take]; rfl)) ?_
          with_reducible refine (layout_Plan_Find.calls kj2 t169 t170 t171 (wrap64 (Int.tmod (IntKind.u64.wrap (a0_4)) (IntKind.u64.wrap (t176)))) t181 t182 t183 _ A26.out).mono ?_
          rintro e w35 ⟨rfl, hb⟩
          refine ⟨_, rfl, ?_⟩
          have n0_ := Aside0.mk (blk_below (g := gb168) (o := .cells #[.int .i64 a0_0, .int .i64 a0_1, .int .i64 a0_2, .int .i64 a0_3, .int .i64 a0_4] 57 (0, 0)) (pk BK168.out) hb)
          have n1_ := Aside0.mk (blk_below (g := gb173) (o := .cells #[.int .i64 t169, .int .i64 t170, .int .i64 t171] 23 (0, 0)) (pk BK173.out) hb)
          have n2_ := Aside0.mk (blk_below (g := gb185) (o := .cells #[.int .i64 0, .int .i64 0, .int .i64 0] 52 (0, 0)) (pk BK185.out) hb)
          have n3_ := Aside0.mk (below_step (pb HB.out) hb)
          clear BK168
          clear BK173
          clear BK185
          clear HB
          have BK168 := n0_
          have BK173 := n1_
          have BK185 := n2_
          have HB := n3_
          clear n0_ n1_ n2_ n3_
          (try clear hb)
          (try clear hb2)
          (try clear hk)
          (try clear hi)
          refine hK.out _ _ ⟨(blk_cell BK173.out 0).trans rfl, (blk_cell BK173.out 1).trans rfl, (blk_cell BK173.out 2).trans rfl⟩ (fun hHeld => ?_)
          clear hK K
          refine norm_ (a' := ?_) ?_ ?_
          rotate_left
          · show Act.put _ (some 73) _ = _
            simp only [Act.put, List.setIfInBounds_toArray, List.set_cons_zero, List.set_cons_succ, i64_w, i32_w]
            rfl
          exact nm (hJ2_5_7 (gb185) _ ⟨hHeld, (pk BK168.out), (pk BK173.out), (pk BK185.out), GW185.out, GE185.out, NB168_185.out, NB185_168.out, NB173_185.out, NB185_173.out, (pb HB.out)⟩)
        skip
        refine box_step ?hg (N := 10) ?hd (cs := #[.int .i64 0, .int .i64 0, .int .i64 0]) (t := 52) ?hr ?_; (case hd => rfl); (case hg => rfl); (case hr => first | (go_simp; done) | (go_simp; rfl))
        intro gb184 hg w35 hbox hb
        have n0_ := Aside0.mk (blk_below (g := gb168) (o := .cells #[.int .i64 a0_0, .int .i64 a0_1, .int .i64 a0_2, .int .i64 a0_3, .int .i64 a0_4] 57 (0, 0)) (pk BK168.out) hb)
        have n1_ := Aside0.mk (blk_below (g := gb173) (o := .cells #[.int .i64 t169, .int .i64 t170, .int .i64 t171] 23 (0, 0)) (pk BK173.out) hb)
        have n2_ := Aside0.mk (blk_below (g := gb185) (o := .cells #[.int .i64 0, .int .i64 0, .int .i64 0] 52 (0, 0)) (pk BK185.out) hb)
        have n3_ := Aside0.mk (below_step (pb HB.out) hb)
        have n4_ := Aside0.mk (hbox)
        have n5_ := Aside0.mk ((by rw [hg]; exact (below_size (pb HB.out)) : w.heap.size ≤ gb184))
        have n6_ := Aside0.mk ((by rw [hg]; exact (below_size (pb HB.out)) : w.heap.size ≤ gb184))
        have n7_ := Aside0.mk ((by rw [hg]; exact Nat.ne_of_lt (blk_lt (g := gb168) (o := .cells #[.int .i64 a0_0, .int .i64 a0_1, .int .i64 a0_2, .int .i64 a0_3, .int .i64 a0_4] 57 (0, 0)) (pk BK168.out)) : gb168 ≠ gb184))
        have n8_ := Aside0.mk ((by rw [hg]; exact Nat.ne_of_gt (blk_lt (g := gb168) (o := .cells #[.int .i64 a0_0, .int .i64 a0_1, .int .i64 a0_2, .int .i64 a0_3, .int .i64 a0_4] 57 (0, 0)) (pk BK168.out)) : gb184 ≠ gb168))
        have n9_ := Aside0.mk ((by rw [hg]; exact Nat.ne_of_lt (blk_lt (g := gb173) (o := .cells #[.int .i64 t169, .int .i64 t170, .int .i64 t171] 23 (0, 0)) (pk BK173.out)) : gb173 ≠ gb184))
        have n10_ := Aside0.mk ((by rw [hg]; exact Nat.ne_of_gt (blk_lt (g := gb173) (o := .cells #[.int .i64 t169, .int .i64 t170, .int .i64 t171] 23 (0, 0)) (pk BK173.out)) : gb184 ≠ gb173))
        have n11_ := Aside0.mk ((by rw [hg]; exact Nat.ne_of_lt (blk_lt (g := gb185) (o := .cells #[.int .i64 0, .int .i64 0, .int .i64 0] 52 (0, 0)) (pk BK185.out)) : gb185 ≠ gb184))
        have n12_ := Aside0.mk ((by rw [hg]; exact Nat.ne_of_gt (blk_lt (g := gb185) (o := .cells #[.int .i64 0, .int .i64 0, .int .i64 0] 52 (0, 0)) (pk BK185.out)) : gb184 ≠ gb185))
        clear BK168
        clear BK173
        clear BK185
        clear HB
        have BK168 := n0_
        have BK173 := n1_
        have BK185 := n2_
        have HB := n3_
        have BK184 := n4_
        have GW184 := n5_
        have GE184 := n6_
        have NB168_184 := n7_
        have NB184_168 := n8_
        have NB173_184 := n9_
        have NB184_173 := n10_
        have NB185_184 := n11_
        have NB184_185 := n12_
        clear n0_ n1_ n2_ n3_ n4_ n5_ n6_ n7_ n8_ n9_ n10_ n11_ n12_
        clear hb hbox hg
        refine hK.out _ _ ⟨(blk_cell BK173.out 0).trans rfl, (blk_cell BK173.out 1).trans rfl, (blk_cell BK173.out 2).trans rfl⟩ (fun hHeld => ?_)
        clear hK K
        refine norm_ (a' := ?_) ?_ ?_
        rotate_left
        · show Act.put _ (some 10) _ = _
          simp only [Act.put, List.setIfInBounds_toArray, List.set_cons_zero, List.set_cons_succ, i64_w, i32_w]
          rfl
        exact nm (hJ2_6_7 (gb184, gb185) _ ⟨hHeld, (pk BK168.out), (pk BK173.out), (pk BK184.out), (pk BK185.out), GW184.out, GE184.out, NB168_184.out, NB184_168.out, NB173_184.out, NB184_173.out, NB185_184.out, NB184_185.out, GW185.out, GE185.out, NB168_185.out, NB185_168.out, NB173_185.out, NB185_173.out, (pb HB.out)⟩)
      intro hJ2_7
      refine join_ (σ := Nat × Nat) 4 #[true, true, false, true, true, false, true, true, false, false] (fun s_ => [(10, .pointer (some ⟨s_.1, 0, none⟩)), (11, .pointer (some ⟨s_.2, 0, none⟩))]) (fun s_ w' => (w'.cell? ⟨gb173, 0, none⟩ = some (.int .i64 t169) ∧ w'.cell? ⟨gb173, 1, none⟩ = some (.int .i64 t170) ∧ w'.cell? ⟨gb173, 2, none⟩ = some (.int .i64 t171)) ∧ (w'.heap[gb168]? = some (.cells #[.int .i64 a0_0, .int .i64 a0_1, .int .i64 a0_2, .int .i64 a0_3, .int .i64 a0_4] 57 (0, 0))) ∧ (w'.heap[gb173]? = some (.cells #[.int .i64 t169, .int .i64 t170, .int .i64 t171] 23 (0, 0))) ∧ (w'.heap[s_.1]? = some (.cells #[.int .i64 0, .int .i64 0, .int .i64 0] 52 (0, 0))) ∧ (w'.heap[s_.2]? = some (.cells #[.int .i64 0, .int .i64 0, .int .i64 0] 52 (0, 0))) ∧ (w.heap.size ≤ s_.1) ∧ (w.heap.size ≤ s_.1) ∧ (gb168 ≠ s_.1) ∧ (s_.1 ≠ gb168) ∧ (gb173 ≠ s_.1) ∧ (s_.1 ≠ gb173) ∧ (s_.2 ≠ s_.1) ∧ (s_.1 ≠ s_.2) ∧ (w.heap.size ≤ s_.2) ∧ (w.heap.size ≤ s_.2) ∧ (gb168 ≠ s_.2) ∧ (s_.2 ≠ gb168) ∧ (gb173 ≠ s_.2) ∧ (s_.2 ≠ gb173) ∧ (Below w.heap.size w w')) ?_ ?_
      rotate_left
      rotate_left
      · skip
        rintro ⟨gb184, gb185⟩ w34 ⟨hS_, h0_, h1_, h2_, h3_, h4_, h5_, h6_, h7_, h8_, h9_, h10_, h11_, h12_, h13_, h14_, h15_, h16_, h17_, h18_⟩
        have n0_ : Aside0 (w34.heap[gb168]? = some (.cells #[.int .i64 a0_0, .int .i64 a0_1, .int .i64 a0_2, .int .i64 a0_3, .int .i64 a0_4] 57 (0, 0))) := ⟨h0_⟩
        have n1_ : Aside0 (w34.heap[gb173]? = some (.cells #[.int .i64 t169, .int .i64 t170, .int .i64 t171] 23 (0, 0))) := ⟨h1_⟩
        have n2_ : Aside0 (w34.heap[gb184]? = some (.cells #[.int .i64 0, .int .i64 0, .int .i64 0] 52 (0, 0))) := ⟨h2_⟩
        have n3_ : Aside0 (w34.heap[gb185]? = some (.cells #[.int .i64 0, .int .i64 0, .int .i64 0] 52 (0, 0))) := ⟨h3_⟩
        have n4_ : Aside0 (w.heap.size ≤ gb184) := ⟨h4_⟩
        have n5_ : Aside0 (w.heap.size ≤ gb184) := ⟨h5_⟩
        have n6_ : Aside0 (gb168 ≠ gb184) := ⟨h6_⟩
        have n7_ : Aside0 (gb184 ≠ gb168) := ⟨h7_⟩
        have n8_ : Aside0 (gb173 ≠ gb184) := ⟨h8_⟩
        have n9_ : Aside0 (gb184 ≠ gb173) := ⟨h9_⟩
        have n10_ : Aside0 (gb185 ≠ gb184) := ⟨h10_⟩
        have n11_ : Aside0 (gb184 ≠ gb185) := ⟨h11_⟩
        have n12_ : Aside0 (w.heap.size ≤ gb185) := ⟨h12_⟩
        have n13_ : Aside0 (w.heap.size ≤ gb185) := ⟨h13_⟩
        have n14_ : Aside0 (gb168 ≠ gb185) := ⟨h14_⟩
        have n15_ : Aside0 (gb185 ≠ gb168) := ⟨h15_⟩
        have n16_ : Aside0 (gb173 ≠ gb185) := ⟨h16_⟩
        have n17_ : Aside0 (gb185 ≠ gb173) := ⟨h17_⟩
        have n18_ : Aside0 (Below w.heap.size w w34) := ⟨h18_⟩
        clear BK168
        clear BK173
        clear HB
        clear h0_ h1_ h2_ h3_ h4_ h5_ h6_ h7_ h8_ h9_ h10_ h11_ h12_ h13_ h14_ h15_ h16_ h17_ h18_
        have BK168 := n0_
        have BK173 := n1_
        have BK184 := n2_
        have BK185 := n3_
        have GW184 := n4_
        have GE184 := n5_
        have NB168_184 := n6_
        have NB184_168 := n7_
        have NB173_184 := n8_
        have NB184_173 := n9_
        have NB185_184 := n10_
        have NB184_185 := n11_
        have GW185 := n12_
        have GE185 := n13_
        have NB168_185 := n14_
        have NB185_168 := n15_
        have NB173_185 := n16_
        have NB185_173 := n17_
        have HB := n18_
        clear n0_ n1_ n2_ n3_ n4_ n5_ n6_ n7_ n8_ n9_ n10_ n11_ n12_ n13_ n14_ n15_ n16_ n17_ n18_
        have hHeld : w34.cell? ⟨gb173, 0, none⟩ = some (.int .i64 t169) ∧ w34.cell? ⟨gb173, 1, none⟩ = some (.int .i64 t170) ∧ w34.cell? ⟨gb173, 2, none⟩ = some (.int .i64 t171) := hS_
        refine norm_ (a' := ?_) ?_ ?_
        rotate_left
        · simp only [putAll, Act.put, sa, sb, sc]
          rfl
        refine one_ (i := 2) (N := some 70) #[true, true, true, true, true, false, true, true, false, false] rfl rfl (one_of HT_.out (by kernel_rfl)) (by decide) (fun K hK => ?_)
        refine goes_ Try.func32 (by kernel_rfl) rfl #[.agg #[.int .i64 t169, .int .i64 t170, .int .i64 t171], .int .i64 (wrap64 (Int.tmod (IntKind.u64.wrap (a0_3)) (IntKind.u64.wrap (t176))))] (by rfl) rfl rfl (by (try simp only [List.map_toArray, List.map_cons, List.map_nil]); first | done | rfl | (simp only [List.length_drop, List.length_take]; rfl)) ?_
        with_reducible refine (layout_Plan_Find.calls kj2 t169 t170 t171 (wrap64 (Int.tmod (IntKind.u64.wrap (a0_3)) (IntKind.u64.wrap (t176)))) t178 t179 t180 _ A25.out).mono ?_
        rintro e w35 ⟨rfl, hb⟩
        refine ⟨_, rfl, ?_⟩
        have n0_ := Aside0.mk (blk_below (g := gb168) (o := .cells #[.int .i64 a0_0, .int .i64 a0_1, .int .i64 a0_2, .int .i64 a0_3, .int .i64 a0_4] 57 (0, 0)) (pk BK168.out) hb)
        have n1_ := Aside0.mk (blk_below (g := gb173) (o := .cells #[.int .i64 t169, .int .i64 t170, .int .i64 t171] 23 (0, 0)) (pk BK173.out) hb)
        have n2_ := Aside0.mk (blk_below (g := gb184) (o := .cells #[.int .i64 0, .int .i64 0, .int .i64 0] 52 (0, 0)) (pk BK184.out) hb)
        have n3_ := Aside0.mk (blk_below (g := gb185) (o := .cells #[.int .i64 0, .int .i64 0, .int .i64 0] 52 (0, 0)) (pk BK185.out) hb)
        have n4_ := Aside0.mk (below_step (pb HB.out) hb)
        clear BK168
        clear BK173
        clear BK184
        clear BK185
        clear HB
        have BK168 := n0_
        have BK173 := n1_
        have BK184 := n2_
        have BK185 := n3_
        have HB := n4_
        clear n0_ n1_ n2_ n3_ n4_
        (try clear hb)
        (try clear hb2)
        (try clear hk)
        (try clear hi)
        refine hK.out _ _ ⟨(blk_cell BK173.out 0).trans rfl, (blk_cell BK173.out 1).trans rfl, (blk_cell BK173.out 2).trans rfl⟩ (fun hHeld => ?_)
        clear hK K
        refine norm_ (a' := ?_) ?_ ?_
        rotate_left
        · show Act.put _ (some 70) _ = _
          simp only [Act.put, List.setIfInBounds_toArray, List.set_cons_zero, List.set_cons_succ, i64_w, i32_w]
          rfl
        exact nm (hJ2_6_7 (gb184, gb185) _ ⟨hHeld, (pk BK168.out), (pk BK173.out), (pk BK184.out), (pk BK185.out), GW184.out, GE184.out, NB168_184.out, NB184_168.out, NB173_184.out, NB184_173.out, NB185_184.out, NB184_185.out, GW185.out, GE185.out, NB168_185.out, NB185_168.out, NB173_185.out, NB185_173.out, (pb HB.out)⟩)
      intro hJ6_7
      refine join_ (σ := Unit) 5 #[true, true, true, true, true, false, false, false, false, false] (fun s_ => [(70, .agg #[.int .i64 t178, .int .i64 t179, .int .i64 t180])]) (fun s_ w' => (w'.cell? ⟨gb173, 0, none⟩ = some (.int .i64 t169) ∧ w'.cell? ⟨gb173, 1, none⟩ = some (.int .i64 t170) ∧ w'.cell? ⟨gb173, 2, none⟩ = some (.int .i64 t171)) ∧ (w'.heap[gb168]? = some (.cells #[.int .i64 a0_0, .int .i64 a0_1, .int .i64 a0_2, .int .i64 a0_3, .int .i64 a0_4] 57 (0, 0))) ∧ (w'.heap[gb173]? = some (.cells #[.int .i64 t169, .int .i64 t170, .int .i64 t171] 23 (0, 0))) ∧ (Below w.heap.size w w')) ?_ ?_
      rotate_left
      rotate_left
      · skip
        rintro _ w33 ⟨hS_, h0_, h1_, h2_⟩
        have n0_ : Aside0 (w33.heap[gb168]? = some (.cells #[.int .i64 a0_0, .int .i64 a0_1, .int .i64 a0_2, .int .i64 a0_3, .int .i64 a0_4] 57 (0, 0))) := ⟨h0_⟩
        have n1_ : Aside0 (w33.heap[gb173]? = some (.cells #[.int .i64 t169, .int .i64 t170, .int .i64 t171] 23 (0, 0))) := ⟨h1_⟩
        have n2_ : Aside0 (Below w.heap.size w w33) := ⟨h2_⟩
        clear BK168
        clear BK173
        clear HB
        clear h0_ h1_ h2_
        have BK168 := n0_
        have BK173 := n1_
        have HB := n2_
        clear n0_ n1_ n2_
        have hHeld : w33.cell? ⟨gb173, 0, none⟩ = some (.int .i64 t169) ∧ w33.cell? ⟨gb173, 1, none⟩ = some (.int .i64 t170) ∧ w33.cell? ⟨gb173, 2, none⟩ = some (.int .i64 t171) := hS_
        refine norm_ (a' := ?_) ?_ ?_
        rotate_left
        · simp only [putAll, Act.put, sa, sb, sc]
          rfl
        refine three_ (i := 5) (j := 6) (k := 7) (Ni := some 73) (Nj := some 10) (Nk := some 11) #[true, true, true, true, true, true, false, false, false, false] #[true, true, true, true, true, false, true, false, false, false] #[true, true, true, true, true, false, false, true, false, false] rfl rfl rfl rfl rfl rfl (three_of HT_.out (by kernel_rfl)) (by decide) (by decide) (by decide) (fun K hK => ?_) (fun K hK => ?_) (fun K hK => ?_)
        · skip
          refine goes_ Try.func32 (by kernel_rfl) rfl #[.agg #[.int .i64 t169, .int .i64 t170, .int .i64 t171], .int .i64 (wrap64 (Int.tmod (IntKind.u64.wrap (a0_4)) (IntKind.u64.wrap (t176))))] (by rfl) rfl rfl (by (try simp only [List.map_toArray, List.map_cons, List.map_nil]); first | done | rfl | (simp only [List.length_drop, List.length_take]; rfl)) ?_
          with_reducible refine (layout_Plan_Find.calls kj2 t169 t170 t171 (wrap64 (Int.tmod (IntKind.u64.wrap (a0_4)) (IntKind.u64.wrap (t176)))) t181 t182 t183 _ A26.out).mono ?_
          rintro e w34 ⟨rfl, hb⟩
          refine ⟨_, rfl, ?_⟩
          have n0_ := Aside0.mk (blk_below (g := gb168) (o := .cells #[.int .i64 a0_0, .int .i64 a0_1, .int .i64 a0_2, .int .i64 a0_3, .int .i64 a0_4] 57 (0, 0)) (pk BK168.out) hb)
          have n1_ := Aside0.mk (blk_below (g := gb173) (o := .cells #[.int .i64 t169, .int .i64 t170, .int .i64 t171] 23 (0, 0)) (pk BK173.out) hb)
          have n2_ := Aside0.mk (below_step (pb HB.out) hb)
          clear BK168
          clear BK173
          clear HB
          have BK168 := n0_
          have BK173 := n1_
          have HB := n2_
          clear n0_ n1_ n2_
          (try clear hb)
          (try clear hb2)
          (try clear hk)
          (try clear hi)
          refine hK.out _ _ ⟨(blk_cell BK173.out 0).trans rfl, (blk_cell BK173.out 1).trans rfl, (blk_cell BK173.out 2).trans rfl⟩ (fun hHeld => ?_)
          clear hK K
          refine norm_ (a' := ?_) ?_ ?_
          rotate_left
          · show Act.put _ (some 73) _ = _
            simp only [Act.put, List.setIfInBounds_toArray, List.set_cons_zero, List.set_cons_succ, i64_w, i32_w]
            rfl
          exact nm (hJ2_5 () _ ⟨hHeld, (pk BK168.out), (pk BK173.out), (pb HB.out)⟩)
        · skip
          refine box_step ?hg (N := 10) ?hd (cs := #[.int .i64 0, .int .i64 0, .int .i64 0]) (t := 52) ?hr ?_; (case hd => rfl); (case hg => rfl); (case hr => first | (go_simp; done) | (go_simp; rfl))
          intro gb184 hg w34 hbox hb
          have n0_ := Aside0.mk (blk_below (g := gb168) (o := .cells #[.int .i64 a0_0, .int .i64 a0_1, .int .i64 a0_2, .int .i64 a0_3, .int .i64 a0_4] 57 (0, 0)) (pk BK168.out) hb)
          have n1_ := Aside0.mk (blk_below (g := gb173) (o := .cells #[.int .i64 t169, .int .i64 t170, .int .i64 t171] 23 (0, 0)) (pk BK173.out) hb)
          have n2_ := Aside0.mk (below_step (pb HB.out) hb)
          have n3_ := Aside0.mk (hbox)
          have n4_ := Aside0.mk ((by rw [hg]; exact (below_size (pb HB.out)) : w.heap.size ≤ gb184))
          have n5_ := Aside0.mk ((by rw [hg]; exact (below_size (pb HB.out)) : w.heap.size ≤ gb184))
          have n6_ := Aside0.mk ((by rw [hg]; exact Nat.ne_of_lt (blk_lt (g := gb168) (o := .cells #[.int .i64 a0_0, .int .i64 a0_1, .int .i64 a0_2, .int .i64 a0_3, .int .i64 a0_4] 57 (0, 0)) (pk BK168.out)) : gb168 ≠ gb184))
          have n7_ := Aside0.mk ((by rw [hg]; exact Nat.ne_of_gt (blk_lt (g := gb168) (o := .cells #[.int .i64 a0_0, .int .i64 a0_1, .int .i64 a0_2, .int .i64 a0_3, .int .i64 a0_4] 57 (0, 0)) (pk BK168.out)) : gb184 ≠ gb168))
          have n8_ := Aside0.mk ((by rw [hg]; exact Nat.ne_of_lt (blk_lt (g := gb173) (o := .cells #[.int .i64 t169, .int .i64 t170, .int .i64 t171] 23 (0, 0)) (pk BK173.out)) : gb173 ≠ gb184))
          have n9_ := Aside0.mk ((by rw [hg]; exact Nat.ne_of_gt (blk_lt (g := gb173) (o := .cells #[.int .i64 t169, .int .i64 t170, .int .i64 t171] 23 (0, 0)) (pk BK173.out)) : gb184 ≠ gb173))
          clear BK168
          clear BK173
          clear HB
          have BK168 := n0_
          have BK173 := n1_
          have HB := n2_
          have BK184 := n3_
          have GW184 := n4_
          have GE184 := n5_
          have NB168_184 := n6_
          have NB184_168 := n7_
          have NB173_184 := n8_
          have NB184_173 := n9_
          clear n0_ n1_ n2_ n3_ n4_ n5_ n6_ n7_ n8_ n9_
          clear hb hbox hg
          refine hK.out _ _ ⟨(blk_cell BK173.out 0).trans rfl, (blk_cell BK173.out 1).trans rfl, (blk_cell BK173.out 2).trans rfl⟩ (fun hHeld => ?_)
          clear hK K
          refine norm_ (a' := ?_) ?_ ?_
          rotate_left
          · show Act.put _ (some 10) _ = _
            simp only [Act.put, List.setIfInBounds_toArray, List.set_cons_zero, List.set_cons_succ, i64_w, i32_w]
            rfl
          exact nm (hJ2_6 (gb184) _ ⟨hHeld, (pk BK168.out), (pk BK173.out), (pk BK184.out), GW184.out, GE184.out, NB168_184.out, NB184_168.out, NB173_184.out, NB184_173.out, (pb HB.out)⟩)
        skip
        refine box_step ?hg (N := 11) ?hd (cs := #[.int .i64 0, .int .i64 0, .int .i64 0]) (t := 52) ?hr ?_; (case hd => rfl); (case hg => rfl); (case hr => first | (go_simp; done) | (go_simp; rfl))
        intro gb185 hg w34 hbox hb
        have n0_ := Aside0.mk (blk_below (g := gb168) (o := .cells #[.int .i64 a0_0, .int .i64 a0_1, .int .i64 a0_2, .int .i64 a0_3, .int .i64 a0_4] 57 (0, 0)) (pk BK168.out) hb)
        have n1_ := Aside0.mk (blk_below (g := gb173) (o := .cells #[.int .i64 t169, .int .i64 t170, .int .i64 t171] 23 (0, 0)) (pk BK173.out) hb)
        have n2_ := Aside0.mk (below_step (pb HB.out) hb)
        have n3_ := Aside0.mk (hbox)
        have n4_ := Aside0.mk ((by rw [hg]; exact (below_size (pb HB.out)) : w.heap.size ≤ gb185))
        have n5_ := Aside0.mk ((by rw [hg]; exact (below_size (pb HB.out)) : w.heap.size ≤ gb185))
        have n6_ := Aside0.mk ((by rw [hg]; exact Nat.ne_of_lt (blk_lt (g := gb168) (o := .cells #[.int .i64 a0_0, .int .i64 a0_1, .int .i64 a0_2, .int .i64 a0_3, .int .i64 a0_4] 57 (0, 0)) (pk BK168.out)) : gb168 ≠ gb185))
        have n7_ := Aside0.mk ((by rw [hg]; exact Nat.ne_of_gt (blk_lt (g := gb168) (o := .cells #[.int .i64 a0_0, .int .i64 a0_1, .int .i64 a0_2, .int .i64 a0_3, .int .i64 a0_4] 57 (0, 0)) (pk BK168.out)) : gb185 ≠ gb168))
        have n8_ := Aside0.mk ((by rw [hg]; exact Nat.ne_of_lt (blk_lt (g := gb173) (o := .cells #[.int .i64 t169, .int .i64 t170, .int .i64 t171] 23 (0, 0)) (pk BK173.out)) : gb173 ≠ gb185))
        have n9_ := Aside0.mk ((by rw [hg]; exact Nat.ne_of_gt (blk_lt (g := gb173) (o := .cells #[.int .i64 t169, .int .i64 t170, .int .i64 t171] 23 (0, 0)) (pk BK173.out)) : gb185 ≠ gb173))
        clear BK168
        clear BK173
        clear HB
        have BK168 := n0_
        have BK173 := n1_
        have HB := n2_
        have BK185 := n3_
        have GW185 := n4_
        have GE185 := n5_
        have NB168_185 := n6_
        have NB185_168 := n7_
        have NB173_185 := n8_
        have NB185_173 := n9_
        clear n0_ n1_ n2_ n3_ n4_ n5_ n6_ n7_ n8_ n9_
        clear hb hbox hg
        refine hK.out _ _ ⟨(blk_cell BK173.out 0).trans rfl, (blk_cell BK173.out 1).trans rfl, (blk_cell BK173.out 2).trans rfl⟩ (fun hHeld => ?_)
        clear hK K
        refine norm_ (a' := ?_) ?_ ?_
        rotate_left
        · show Act.put _ (some 11) _ = _
          simp only [Act.put, List.setIfInBounds_toArray, List.set_cons_zero, List.set_cons_succ, i64_w, i32_w]
          rfl
        exact nm (hJ2_7 (gb185) _ ⟨hHeld, (pk BK168.out), (pk BK173.out), (pk BK185.out), GW185.out, GE185.out, NB168_185.out, NB185_168.out, NB173_185.out, NB185_173.out, (pb HB.out)⟩)
      intro hJ2
      refine join_ (σ := Nat) 5 #[true, true, false, true, true, false, true, false, false, false] (fun s_ => [(10, .pointer (some ⟨s_, 0, none⟩))]) (fun s_ w' => (w'.cell? ⟨gb173, 0, none⟩ = some (.int .i64 t169) ∧ w'.cell? ⟨gb173, 1, none⟩ = some (.int .i64 t170) ∧ w'.cell? ⟨gb173, 2, none⟩ = some (.int .i64 t171)) ∧ (w'.heap[gb168]? = some (.cells #[.int .i64 a0_0, .int .i64 a0_1, .int .i64 a0_2, .int .i64 a0_3, .int .i64 a0_4] 57 (0, 0))) ∧ (w'.heap[gb173]? = some (.cells #[.int .i64 t169, .int .i64 t170, .int .i64 t171] 23 (0, 0))) ∧ (w'.heap[s_]? = some (.cells #[.int .i64 0, .int .i64 0, .int .i64 0] 52 (0, 0))) ∧ (w.heap.size ≤ s_) ∧ (w.heap.size ≤ s_) ∧ (gb168 ≠ s_) ∧ (s_ ≠ gb168) ∧ (gb173 ≠ s_) ∧ (s_ ≠ gb173) ∧ (Below w.heap.size w w')) ?_ ?_
      rotate_left
      rotate_left
      · skip
        rintro gb184 w33 ⟨hS_, h0_, h1_, h2_, h3_, h4_, h5_, h6_, h7_, h8_, h9_⟩
        have n0_ : Aside0 (w33.heap[gb168]? = some (.cells #[.int .i64 a0_0, .int .i64 a0_1, .int .i64 a0_2, .int .i64 a0_3, .int .i64 a0_4] 57 (0, 0))) := ⟨h0_⟩
        have n1_ : Aside0 (w33.heap[gb173]? = some (.cells #[.int .i64 t169, .int .i64 t170, .int .i64 t171] 23 (0, 0))) := ⟨h1_⟩
        have n2_ : Aside0 (w33.heap[gb184]? = some (.cells #[.int .i64 0, .int .i64 0, .int .i64 0] 52 (0, 0))) := ⟨h2_⟩
        have n3_ : Aside0 (w.heap.size ≤ gb184) := ⟨h3_⟩
        have n4_ : Aside0 (w.heap.size ≤ gb184) := ⟨h4_⟩
        have n5_ : Aside0 (gb168 ≠ gb184) := ⟨h5_⟩
        have n6_ : Aside0 (gb184 ≠ gb168) := ⟨h6_⟩
        have n7_ : Aside0 (gb173 ≠ gb184) := ⟨h7_⟩
        have n8_ : Aside0 (gb184 ≠ gb173) := ⟨h8_⟩
        have n9_ : Aside0 (Below w.heap.size w w33) := ⟨h9_⟩
        clear BK168
        clear BK173
        clear HB
        clear h0_ h1_ h2_ h3_ h4_ h5_ h6_ h7_ h8_ h9_
        have BK168 := n0_
        have BK173 := n1_
        have BK184 := n2_
        have GW184 := n3_
        have GE184 := n4_
        have NB168_184 := n5_
        have NB184_168 := n6_
        have NB173_184 := n7_
        have NB184_173 := n8_
        have HB := n9_
        clear n0_ n1_ n2_ n3_ n4_ n5_ n6_ n7_ n8_ n9_
        have hHeld : w33.cell? ⟨gb173, 0, none⟩ = some (.int .i64 t169) ∧ w33.cell? ⟨gb173, 1, none⟩ = some (.int .i64 t170) ∧ w33.cell? ⟨gb173, 2, none⟩ = some (.int .i64 t171) := hS_
        refine norm_ (a' := ?_) ?_ ?_
        rotate_left
        · simp only [putAll, Act.put, sa, sb, sc]
          rfl
        refine two_ (i := 2) (j := 7) (Ni := some 70) (Nj := some 11) #[true, true, true, true, true, false, true, false, false, false] #[true, true, false, true, true, false, true, true, false, false] rfl rfl rfl rfl (two_of HT_.out (by kernel_rfl)) (by decide) (by decide) (fun K hK => ?_) (fun K hK => ?_)
        · skip
          refine goes_ Try.func32 (by kernel_rfl) rfl #[.agg #[.int .i64 t169, .int .i64 t170, .int .i64 t171], .int .i64 (wrap64 (Int.tmod (IntKind.u64.wrap (a0_3)) (IntKind.u64.wrap (t176))))] (by rfl) rfl rfl (by (try simp only [List.map_toArray, List.map_cons, List.map_nil]); first | done | rfl | (simp only [List.length_drop, List.length_take]; rfl)) ?_
          with_reducible refine (layout_Plan_Find.calls kj2 t169 t170 t171 (wrap64 (Int.tmod (IntKind.u64.wrap (a0_3)) (IntKind.u64.wrap (t176)))) t178 t179 t180 _ A25.out).mono ?_
          rintro e w34 ⟨rfl, hb⟩
          refine ⟨_, rfl, ?_⟩
          have n0_ := Aside0.mk (blk_below (g := gb168) (o := .cells #[.int .i64 a0_0, .int .i64 a0_1, .int .i64 a0_2, .int .i64 a0_3, .int .i64 a0_4] 57 (0, 0)) (pk BK168.out) hb)
          have n1_ := Aside0.mk (blk_below (g := gb173) (o := .cells #[.int .i64 t169, .int .i64 t170, .int .i64 t171] 23 (0, 0)) (pk BK173.out) hb)
          have n2_ := Aside0.mk (blk_below (g := gb184) (o := .cells #[.int .i64 0, .int .i64 0, .int .i64 0] 52 (0, 0)) (pk BK184.out) hb)
          have n3_ := Aside0.mk (below_step (pb HB.out) hb)
          clear BK168
          clear BK173
          clear BK184
          clear HB
          have BK168 := n0_
          have BK173 := n1_
          have BK184 := n2_
          have HB := n3_
          clear n0_ n1_ n2_ n3_
          (try clear hb)
          (try clear hb2)
          (try clear hk)
          (try clear hi)
          refine hK.out _ _ ⟨(blk_cell BK173.out 0).trans rfl, (blk_cell BK173.out 1).trans rfl, (blk_cell BK173.out 2).trans rfl⟩ (fun hHeld => ?_)
          clear hK K
          refine norm_ (a' := ?_) ?_ ?_
          rotate_left
          · show Act.put _ (some 70) _ = _
            simp only [Act.put, List.setIfInBounds_toArray, List.set_cons_zero, List.set_cons_succ, i64_w, i32_w]
            rfl
          exact nm (hJ2_6 (gb184) _ ⟨hHeld, (pk BK168.out), (pk BK173.out), (pk BK184.out), GW184.out, GE184.out, NB168_184.out, NB184_168.out, NB173_184.out, NB184_173.out, (pb HB.out)⟩)
        skip
        refine box_step ?hg (N := 11) ?hd (cs := #[.int .i64 0, .int .i64 0, .int .i64 0]) (t := 52) ?hr ?_; (case hd => rfl); (case hg => rfl); (case hr => first | (go_simp; done) | (go_simp; rfl))
        intro gb185 hg w34 hbox hb
        have n0_ := Aside0.mk (blk_below (g := gb168) (o := .cells #[.int .i64 a0_0, .int .i64 a0_1, .int .i64 a0_2, .int .i64 a0_3, .int .i64 a0_4] 57 (0, 0)) (pk BK168.out) hb)
        have n1_ := Aside0.mk (blk_below (g := gb173) (o := .cells #[.int .i64 t169, .int .i64 t170, .int .i64 t171] 23 (0, 0)) (pk BK173.out) hb)
        have n2_ := Aside0.mk (blk_below (g := gb184) (o := .cells #[.int .i64 0, .int .i64 0, .int .i64 0] 52 (0, 0)) (pk BK184.out) hb)
        have n3_ := Aside0.mk (below_step (pb HB.out) hb)
        have n4_ := Aside0.mk (hbox)
        have n5_ := Aside0.mk ((by rw [hg]; exact (below_size (pb HB.out)) : w.heap.size ≤ gb185))
        have n6_ := Aside0.mk ((by rw [hg]; exact (below_size (pb HB.out)) : w.heap.size ≤ gb185))
        have n7_ := Aside0.mk ((by rw [hg]; exact Nat.ne_of_lt (blk_lt (g := gb168) (o := .cells #[.int .i64 a0_0, .int .i64 a0_1, .int .i64 a0_2, .int .i64 a0_3, .int .i64 a0_4] 57 (0, 0)) (pk BK168.out)) : gb168 ≠ gb185))
        have n8_ := Aside0.mk ((by rw [hg]; exact Nat.ne_of_gt (blk_lt (g := gb168) (o := .cells #[.int .i64 a0_0, .int .i64 a0_1, .int .i64 a0_2, .int .i64 a0_3, .int .i64 a0_4] 57 (0, 0)) (pk BK168.out)) : gb185 ≠ gb168))
        have n9_ := Aside0.mk ((by rw [hg]; exact Nat.ne_of_lt (blk_lt (g := gb173) (o := .cells #[.int .i64 t169, .int .i64 t170, .int .i64 t171] 23 (0, 0)) (pk BK173.out)) : gb173 ≠ gb185))
        have n10_ := Aside0.mk ((by rw [hg]; exact Nat.ne_of_gt (blk_lt (g := gb173) (o := .cells #[.int .i64 t169, .int .i64 t170, .int .i64 t171] 23 (0, 0)) (pk BK173.out)) : gb185 ≠ gb173))
        have n11_ := Aside0.mk ((by rw [hg]; exact Nat.ne_of_lt (blk_lt (g := gb184) (o := .cells #[.int .i64 0, .int .i64 0, .int .i64 0] 52 (0, 0)) (pk BK184.out)) : gb184 ≠ gb185))
        have n12_ := Aside0.mk ((by rw [hg]; exact Nat.ne_of_gt (blk_lt (g := gb184) (o := .cells #[.int .i64 0, .int .i64 0, .int .i64 0] 52 (0, 0)) (pk BK184.out)) : gb185 ≠ gb184))
        clear BK168
        clear BK173
        clear BK184
        clear HB
        have BK168 := n0_
        have BK173 := n1_
        have BK184 := n2_
        have HB := n3_
        have BK185 := n4_
        have GW185 := n5_
        have GE185 := n6_
        have NB168_185 := n7_
        have NB185_168 := n8_
        have NB173_185 := n9_
        have NB185_173 := n10_
        have NB184_185 := n11_
        have NB185_184 := n12_
        clear n0_ n1_ n2_ n3_ n4_ n5_ n6_ n7_ n8_ n9_ n10_ n11_ n12_
        clear hb hbox hg
        refine hK.out _ _ ⟨(blk_cell BK173.out 0).trans rfl, (blk_cell BK173.out 1).trans rfl, (blk_cell BK173.out 2).trans rfl⟩ (fun hHeld => ?_)
        clear hK K
        refine norm_ (a' := ?_) ?_ ?_
        rotate_left
        · show Act.put _ (some 11) _ = _
          simp only [Act.put, List.setIfInBounds_toArray, List.set_cons_zero, List.set_cons_succ, i64_w, i32_w]
          rfl
        exact nm (hJ6_7 (gb184, gb185) _ ⟨hHeld, (pk BK168.out), (pk BK173.out), (pk BK184.out), (pk BK185.out), GW184.out, GE184.out, NB168_184.out, NB184_168.out, NB173_184.out, NB184_173.out, NB185_184.out, NB184_185.out, GW185.out, GE185.out, NB168_185.out, NB185_168.out, NB173_185.out, NB185_173.out, (pb HB.out)⟩)
      intro hJ6
      refine join_ (σ := Nat) 5 #[true, true, false, true, true, false, false, true, false, false] (fun s_ => [(11, .pointer (some ⟨s_, 0, none⟩))]) (fun s_ w' => (w'.cell? ⟨gb173, 0, none⟩ = some (.int .i64 t169) ∧ w'.cell? ⟨gb173, 1, none⟩ = some (.int .i64 t170) ∧ w'.cell? ⟨gb173, 2, none⟩ = some (.int .i64 t171)) ∧ (w'.heap[gb168]? = some (.cells #[.int .i64 a0_0, .int .i64 a0_1, .int .i64 a0_2, .int .i64 a0_3, .int .i64 a0_4] 57 (0, 0))) ∧ (w'.heap[gb173]? = some (.cells #[.int .i64 t169, .int .i64 t170, .int .i64 t171] 23 (0, 0))) ∧ (w'.heap[s_]? = some (.cells #[.int .i64 0, .int .i64 0, .int .i64 0] 52 (0, 0))) ∧ (w.heap.size ≤ s_) ∧ (w.heap.size ≤ s_) ∧ (gb168 ≠ s_) ∧ (s_ ≠ gb168) ∧ (gb173 ≠ s_) ∧ (s_ ≠ gb173) ∧ (Below w.heap.size w w')) ?_ ?_
      rotate_left
      rotate_left
      · skip
        rintro gb185 w33 ⟨hS_, h0_, h1_, h2_, h3_, h4_, h5_, h6_, h7_, h8_, h9_⟩
        have n0_ : Aside0 (w33.heap[gb168]? = some (.cells #[.int .i64 a0_0, .int .i64 a0_1, .int .i64 a0_2, .int .i64 a0_3, .int .i64 a0_4] 57 (0, 0))) := ⟨h0_⟩
        have n1_ : Aside0 (w33.heap[gb173]? = some (.cells #[.int .i64 t169, .int .i64 t170, .int .i64 t171] 23 (0, 0))) := ⟨h1_⟩
        have n2_ : Aside0 (w33.heap[gb185]? = some (.cells #[.int .i64 0, .int .i64 0, .int .i64 0] 52 (0, 0))) := ⟨h2_⟩
        have n3_ : Aside0 (w.heap.size ≤ gb185) := ⟨h3_⟩
        have n4_ : Aside0 (w.heap.size ≤ gb185) := ⟨h4_⟩
        have n5_ : Aside0 (gb168 ≠ gb185) := ⟨h5_⟩
        have n6_ : Aside0 (gb185 ≠ gb168) := ⟨h6_⟩
        have n7_ : Aside0 (gb173 ≠ gb185) := ⟨h7_⟩
        have n8_ : Aside0 (gb185 ≠ gb173) := ⟨h8_⟩
        have n9_ : Aside0 (Below w.heap.size w w33) := ⟨h9_⟩
        clear BK168
        clear BK173
        clear HB
        clear h0_ h1_ h2_ h3_ h4_ h5_ h6_ h7_ h8_ h9_
        have BK168 := n0_
        have BK173 := n1_
        have BK185 := n2_
        have GW185 := n3_
        have GE185 := n4_
        have NB168_185 := n5_
        have NB185_168 := n6_
        have NB173_185 := n7_
        have NB185_173 := n8_
        have HB := n9_
        clear n0_ n1_ n2_ n3_ n4_ n5_ n6_ n7_ n8_ n9_
        have hHeld : w33.cell? ⟨gb173, 0, none⟩ = some (.int .i64 t169) ∧ w33.cell? ⟨gb173, 1, none⟩ = some (.int .i64 t170) ∧ w33.cell? ⟨gb173, 2, none⟩ = some (.int .i64 t171) := hS_
        refine norm_ (a' := ?_) ?_ ?_
        rotate_left
        · simp only [putAll, Act.put, sa, sb, sc]
          rfl
        refine two_ (i := 2) (j := 6) (Ni := some 70) (Nj := some 10) #[true, true, true, true, true, false, false, true, false, false] #[true, true, false, true, true, false, true, true, false, false] rfl rfl rfl rfl (two_of HT_.out (by kernel_rfl)) (by decide) (by decide) (fun K hK => ?_) (fun K hK => ?_)
        · skip
          refine goes_ Try.func32 (by kernel_rfl) rfl #[.agg #[.int .i64 t169, .int .i64 t170, .int .i64 t171], .int .i64 (wrap64 (Int.tmod (IntKind.u64.wrap (a0_3)) (IntKind.u64.wrap (t176))))] (by rfl) rfl rfl (by (try simp only [List.map_toArray, List.map_cons, List.map_nil]); first | done | rfl | (simp only [List.length_drop, List.length_take]; rfl)) ?_
          with_reducible refine (layout_Plan_Find.calls kj2 t169 t170 t171 (wrap64 (Int.tmod (IntKind.u64.wrap (a0_3)) (IntKind.u64.wrap (t176)))) t178 t179 t180 _ A25.out).mono ?_
          rintro e w34 ⟨rfl, hb⟩
          refine ⟨_, rfl, ?_⟩
          have n0_ := Aside0.mk (blk_below (g := gb168) (o := .cells #[.int .i64 a0_0, .int .i64 a0_1, .int .i64 a0_2, .int .i64 a0_3, .int .i64 a0_4] 57 (0, 0)) (pk BK168.out) hb)
          have n1_ := Aside0.mk (blk_below (g := gb173) (o := .cells #[.int .i64 t169, .int .i64 t170, .int .i64 t171] 23 (0, 0)) (pk BK173.out) hb)
          have n2_ := Aside0.mk (blk_below (g := gb185) (o := .cells #[.int .i64 0, .int .i64 0, .int .i64 0] 52 (0, 0)) (pk BK185.out) hb)
          have n3_ := Aside0.mk (below_step (pb HB.out) hb)
          clear BK168
          clear BK173
          clear BK185
          clear HB
          have BK168 := n0_
          have BK173 := n1_
          have BK185 := n2_
          have HB := n3_
          clear n0_ n1_ n2_ n3_
          (try clear hb)
          (try clear hb2)
          (try clear hk)
          (try clear hi)
          refine hK.out _ _ ⟨(blk_cell BK173.out 0).trans rfl, (blk_cell BK173.out 1).trans rfl, (blk_cell BK173.out 2).trans rfl⟩ (fun hHeld => ?_)
          clear hK K
          refine norm_ (a' := ?_) ?_ ?_
          rotate_left
          · show Act.put _ (some 70) _ = _
            simp only [Act.put, List.setIfInBounds_toArray, List.set_cons_zero, List.set_cons_succ, i64_w, i32_w]
            rfl
          exact nm (hJ2_7 (gb185) _ ⟨hHeld, (pk BK168.out), (pk BK173.out), (pk BK185.out), GW185.out, GE185.out, NB168_185.out, NB185_168.out, NB173_185.out, NB185_173.out, (pb HB.out)⟩)
        skip
        refine box_step ?hg (N := 10) ?hd (cs := #[.int .i64 0, .int .i64 0, .int .i64 0]) (t := 52) ?hr ?_; (case hd => rfl); (case hg => rfl); (case hr => first | (go_simp; done) | (go_simp; rfl))
        intro gb184 hg w34 hbox hb
        have n0_ := Aside0.mk (blk_below (g := gb168) (o := .cells #[.int .i64 a0_0, .int .i64 a0_1, .int .i64 a0_2, .int .i64 a0_3, .int .i64 a0_4] 57 (0, 0)) (pk BK168.out) hb)
        have n1_ := Aside0.mk (blk_below (g := gb173) (o := .cells #[.int .i64 t169, .int .i64 t170, .int .i64 t171] 23 (0, 0)) (pk BK173.out) hb)
        have n2_ := Aside0.mk (blk_below (g := gb185) (o := .cells #[.int .i64 0, .int .i64 0, .int .i64 0] 52 (0, 0)) (pk BK185.out) hb)
        have n3_ := Aside0.mk (below_step (pb HB.out) hb)
        have n4_ := Aside0.mk (hbox)
        have n5_ := Aside0.mk ((by rw [hg]; exact (below_size (pb HB.out)) : w.heap.size ≤ gb184))
        have n6_ := Aside0.mk ((by rw [hg]; exact (below_size (pb HB.out)) : w.heap.size ≤ gb184))
        have n7_ := Aside0.mk ((by rw [hg]; exact Nat.ne_of_lt (blk_lt (g := gb168) (o := .cells #[.int .i64 a0_0, .int .i64 a0_1, .int .i64 a0_2, .int .i64 a0_3, .int .i64 a0_4] 57 (0, 0)) (pk BK168.out)) : gb168 ≠ gb184))
        have n8_ := Aside0.mk ((by rw [hg]; exact Nat.ne_of_gt (blk_lt (g := gb168) (o := .cells #[.int .i64 a0_0, .int .i64 a0_1, .int .i64 a0_2, .int .i64 a0_3, .int .i64 a0_4] 57 (0, 0)) (pk BK168.out)) : gb184 ≠ gb168))
        have n9_ := Aside0.mk ((by rw [hg]; exact Nat.ne_of_lt (blk_lt (g := gb173) (o := .cells #[.int .i64 t169, .int .i64 t170, .int .i64 t171] 23 (0, 0)) (pk BK173.out)) : gb173 ≠ gb184))
        have n10_ := Aside0.mk ((by rw [hg]; exact Nat.ne_of_gt (blk_lt (g := gb173) (o := .cells #[.int .i64 t169, .int .i64 t170, .int .i64 t171] 23 (0, 0)) (pk BK173.out)) : gb184 ≠ gb173))
        have n11_ := Aside0.mk ((by rw [hg]; exact Nat.ne_of_lt (blk_lt (g := gb185) (o := .cells #[.int .i64 0, .int .i64 0, .int .i64 0] 52 (0, 0)) (pk BK185.out)) : gb185 ≠ gb184))
        have n12_ := Aside0.mk ((by rw [hg]; exact Nat.ne_of_gt (blk_lt (g := gb185) (o := .cells #[.int .i64 0, .int .i64 0, .int .i64 0] 52 (0, 0)) (pk BK185.out)) : gb184 ≠ gb185))
        clear BK168
        clear BK173
        clear BK185
        clear HB
        have BK168 := n0_
        have BK173 := n1_
        have BK185 := n2_
        have HB := n3_
        have BK184 := n4_
        have GW184 := n5_
        have GE184 := n6_
        have NB168_184 := n7_
        have NB184_168 := n8_
        have NB173_184 := n9_
        have NB184_173 := n10_
        have NB185_184 := n11_
        have NB184_185 := n12_
        clear n0_ n1_ n2_ n3_ n4_ n5_ n6_ n7_ n8_ n9_ n10_ n11_ n12_
        clear hb hbox hg
        refine hK.out _ _ ⟨(blk_cell BK173.out 0).trans rfl, (blk_cell BK173.out 1).trans rfl, (blk_cell BK173.out 2).trans rfl⟩ (fun hHeld => ?_)
        clear hK K
        refine norm_ (a' := ?_) ?_ ?_
        rotate_left
        · show Act.put _ (some 10) _ = _
          simp only [Act.put, List.setIfInBounds_toArray, List.set_cons_zero, List.set_cons_succ, i64_w, i32_w]
          rfl
        exact nm (hJ6_7 (gb184, gb185) _ ⟨hHeld, (pk BK168.out), (pk BK173.out), (pk BK184.out), (pk BK185.out), GW184.out, GE184.out, NB168_184.out, NB184_168.out, NB173_184.out, NB184_173.out, NB185_184.out, NB184_185.out, GW185.out, GE185.out, NB168_185.out, NB185_168.out, NB173_185.out, NB185_173.out, (pb HB.out)⟩)
      intro hJ7
      refine three_ (i := 2) (j := 6) (k := 7) (Ni := some 70) (Nj := some 10) (Nk := some 11) #[true, true, true, true, true, false, false, false, false, false] #[true, true, false, true, true, false, true, false, false, false] #[true, true, false, true, true, false, false, true, false, false] rfl rfl rfl rfl rfl rfl (three_of HT_.out (by kernel_rfl)) (by decide) (by decide) (by decide) (fun K hK => ?_) (fun K hK => ?_) (fun K hK => ?_)
      · skip
        refine goes_ Try.func32 (by kernel_rfl) rfl #[.agg #[.int .i64 t169, .int .i64 t170, .int .i64 t171], .int .i64 (wrap64 (Int.tmod (IntKind.u64.wrap (a0_3)) (IntKind.u64.wrap (t176))))] (by rfl) rfl rfl (by (try simp only [List.map_toArray, List.map_cons, List.map_nil]); first | done | rfl | (simp only [List.length_drop, List.length_take]; rfl)) ?_
        with_reducible refine (layout_Plan_Find.calls kj2 t169 t170 t171 (wrap64 (Int.tmod (IntKind.u64.wrap (a0_3)) (IntKind.u64.wrap (t176)))) t178 t179 t180 _ A25.out).mono ?_
        rintro e w32 ⟨rfl, hb⟩
        refine ⟨_, rfl, ?_⟩
        have n0_ := Aside0.mk (blk_below (g := gb168) (o := .cells #[.int .i64 a0_0, .int .i64 a0_1, .int .i64 a0_2, .int .i64 a0_3, .int .i64 a0_4] 57 (0, 0)) (pk BK168.out) hb)
        have n1_ := Aside0.mk (blk_below (g := gb173) (o := .cells #[.int .i64 t169, .int .i64 t170, .int .i64 t171] 23 (0, 0)) (pk BK173.out) hb)
        have n2_ := Aside0.mk (below_step (pb HB.out) hb)
        clear BK168
        clear BK173
        clear HB
        have BK168 := n0_
        have BK173 := n1_
        have HB := n2_
        clear n0_ n1_ n2_
        (try clear hb)
        (try clear hb2)
        (try clear hk)
        (try clear hi)
        refine hK.out _ _ ⟨(blk_cell BK173.out 0).trans rfl, (blk_cell BK173.out 1).trans rfl, (blk_cell BK173.out 2).trans rfl⟩ (fun hHeld => ?_)
        clear hK K
        refine norm_ (a' := ?_) ?_ ?_
        rotate_left
        · show Act.put _ (some 70) _ = _
          simp only [Act.put, List.setIfInBounds_toArray, List.set_cons_zero, List.set_cons_succ, i64_w, i32_w]
          rfl
        exact nm (hJ2 () _ ⟨hHeld, (pk BK168.out), (pk BK173.out), (pb HB.out)⟩)
      · skip
        refine box_step ?hg (N := 10) ?hd (cs := #[.int .i64 0, .int .i64 0, .int .i64 0]) (t := 52) ?hr ?_; (case hd => rfl); (case hg => rfl); (case hr => first | (go_simp; done) | (go_simp; rfl))
        intro gb184 hg w32 hbox hb
        have n0_ := Aside0.mk (blk_below (g := gb168) (o := .cells #[.int .i64 a0_0, .int .i64 a0_1, .int .i64 a0_2, .int .i64 a0_3, .int .i64 a0_4] 57 (0, 0)) (pk BK168.out) hb)
        have n1_ := Aside0.mk (blk_below (g := gb173) (o := .cells #[.int .i64 t169, .int .i64 t170, .int .i64 t171] 23 (0, 0)) (pk BK173.out) hb)
        have n2_ := Aside0.mk (below_step (pb HB.out) hb)
        have n3_ := Aside0.mk (hbox)
        have n4_ := Aside0.mk ((by rw [hg]; exact (below_size (pb HB.out)) : w.heap.size ≤ gb184))
        have n5_ := Aside0.mk ((by rw [hg]; exact (below_size (pb HB.out)) : w.heap.size ≤ gb184))
        have n6_ := Aside0.mk ((by rw [hg]; exact Nat.ne_of_lt (blk_lt (g := gb168) (o := .cells #[.int .i64 a0_0, .int .i64 a0_1, .int .i64 a0_2, .int .i64 a0_3, .int .i64 a0_4] 57 (0, 0)) (pk BK168.out)) : gb168 ≠ gb184))
        have n7_ := Aside0.mk ((by rw [hg]; exact Nat.ne_of_gt (blk_lt (g := gb168) (o := .cells #[.int .i64 a0_0, .int .i64 a0_1, .int .i64 a0_2, .int .i64 a0_3, .int .i64 a0_4] 57 (0, 0)) (pk BK168.out)) : gb184 ≠ gb168))
        have n8_ := Aside0.mk ((by rw [hg]; exact Nat.ne_of_lt (blk_lt (g := gb173) (o := .cells #[.int .i64 t169, .int .i64 t170, .int .i64 t171] 23 (0, 0)) (pk BK173.out)) : gb173 ≠ gb184))
        have n9_ := Aside0.mk ((by rw [hg]; exact Nat.ne_of_gt (blk_lt (g := gb173) (o := .cells #[.int .i64 t169, .int .i64 t170, .int .i64 t171] 23 (0, 0)) (pk BK173.out)) : gb184 ≠ gb173))
        clear BK168
        clear BK173
        clear HB
        have BK168 := n0_
        have BK173 := n1_
        have HB := n2_
        have BK184 := n3_
        have GW184 := n4_
        have GE184 := n5_
        have NB168_184 := n6_
        have NB184_168 := n7_
        have NB173_184 := n8_
        have NB184_173 := n9_
        clear n0_ n1_ n2_ n3_ n4_ n5_ n6_ n7_ n8_ n9_
        clear hb hbox hg
        refine hK.out _ _ ⟨(blk_cell BK173.out 0).trans rfl, (blk_cell BK173.out 1).trans rfl, (blk_cell BK173.out 2).trans rfl⟩ (fun hHeld => ?_)
        clear hK K
        refine norm_ (a' := ?_) ?_ ?_
        rotate_left
        · show Act.put _ (some 10) _ = _
          simp only [Act.put, List.setIfInBounds_toArray, List.set_cons_zero, List.set_cons_succ, i64_w, i32_w]
          rfl
        exact nm (hJ6 (gb184) _ ⟨hHeld, (pk BK168.out), (pk BK173.out), (pk BK184.out), GW184.out, GE184.out, NB168_184.out, NB184_168.out, NB173_184.out, NB184_173.out, (pb HB.out)⟩)
      skip
      refine box_step ?hg (N := 11) ?hd (cs := #[.int .i64 0, .int .i64 0, .int .i64 0]) (t := 52) ?hr ?_; (case hd => rfl); (case hg => rfl); (case hr => first | (go_simp; done) | (go_simp; rfl))
      intro gb185 hg w32 hbox hb
      have n0_ := Aside0.mk (blk_below (g := gb168) (o := .cells #[.int .i64 a0_0, .int .i64 a0_1, .int .i64 a0_2, .int .i64 a0_3, .int .i64 a0_4] 57 (0, 0)) (pk BK168.out) hb)
      have n1_ := Aside0.mk (blk_below (g := gb173) (o := .cells #[.int .i64 t169, .int .i64 t170, .int .i64 t171] 23 (0, 0)) (pk BK173.out) hb)
      have n2_ := Aside0.mk (below_step (pb HB.out) hb)
      have n3_ := Aside0.mk (hbox)
      have n4_ := Aside0.mk ((by rw [hg]; exact (below_size (pb HB.out)) : w.heap.size ≤ gb185))
      have n5_ := Aside0.mk ((by rw [hg]; exact (below_size (pb HB.out)) : w.heap.size ≤ gb185))
      have n6_ := Aside0.mk ((by rw [hg]; exact Nat.ne_of_lt (blk_lt (g := gb168) (o := .cells #[.int .i64 a0_0, .int .i64 a0_1, .int .i64 a0_2, .int .i64 a0_3, .int .i64 a0_4] 57 (0, 0)) (pk BK168.out)) : gb168 ≠ gb185))
      have n7_ := Aside0.mk ((by rw [hg]; exact Nat.ne_of_gt (blk_lt (g := gb168) (o := .cells #[.int .i64 a0_0, .int .i64 a0_1, .int .i64 a0_2, .int .i64 a0_3, .int .i64 a0_4] 57 (0, 0)) (pk BK168.out)) : gb185 ≠ gb168))
      have n8_ := Aside0.mk ((by rw [hg]; exact Nat.ne_of_lt (blk_lt (g := gb173) (o := .cells #[.int .i64 t169, .int .i64 t170, .int .i64 t171] 23 (0, 0)) (pk BK173.out)) : gb173 ≠ gb185))
      have n9_ := Aside0.mk ((by rw [hg]; exact Nat.ne_of_gt (blk_lt (g := gb173) (o := .cells #[.int .i64 t169, .int .i64 t170, .int .i64 t171] 23 (0, 0)) (pk BK173.out)) : gb185 ≠ gb173))
      clear BK168
      clear BK173
      clear HB
      have BK168 := n0_
      have BK173 := n1_
      have HB := n2_
      have BK185 := n3_
      have GW185 := n4_
      have GE185 := n5_
      have NB168_185 := n6_
      have NB185_168 := n7_
      have NB173_185 := n8_
      have NB185_173 := n9_
      clear n0_ n1_ n2_ n3_ n4_ n5_ n6_ n7_ n8_ n9_
      clear hb hbox hg
      refine hK.out _ _ ⟨(blk_cell BK173.out 0).trans rfl, (blk_cell BK173.out 1).trans rfl, (blk_cell BK173.out 2).trans rfl⟩ (fun hHeld => ?_)
      clear hK K
      refine norm_ (a' := ?_) ?_ ?_
      rotate_left
      · show Act.put _ (some 11) _ = _
        simp only [Act.put, List.setIfInBounds_toArray, List.set_cons_zero, List.set_cons_succ, i64_w, i32_w]
        rfl
      exact nm (hJ7 (gb185) _ ⟨hHeld, (pk BK168.out), (pk BK173.out), (pk BK185.out), GW185.out, GE185.out, NB168_185.out, NB185_168.out, NB173_185.out, NB185_173.out, (pb HB.out)⟩)
    rintro ⟨gb184, gb185⟩ w36 ⟨hS_, h0_, h1_, h2_, h3_, h4_, h5_, h6_, h7_, h8_, h9_, h10_, h11_, h12_, h13_, h14_, h15_, h16_, h17_, h18_⟩
    have n0_ : Aside0 (w36.heap[gb168]? = some (.cells #[.int .i64 a0_0, .int .i64 a0_1, .int .i64 a0_2, .int .i64 a0_3, .int .i64 a0_4] 57 (0, 0))) := ⟨h0_⟩
    have n1_ : Aside0 (w36.heap[gb173]? = some (.cells #[.int .i64 t169, .int .i64 t170, .int .i64 t171] 23 (0, 0))) := ⟨h1_⟩
    have n2_ : Aside0 (w36.heap[gb184]? = some (.cells #[.int .i64 0, .int .i64 0, .int .i64 0] 52 (0, 0))) := ⟨h2_⟩
    have n3_ : Aside0 (w36.heap[gb185]? = some (.cells #[.int .i64 0, .int .i64 0, .int .i64 0] 52 (0, 0))) := ⟨h3_⟩
    have n4_ : Aside0 (w.heap.size ≤ gb184) := ⟨h4_⟩
    have n5_ : Aside0 (w.heap.size ≤ gb184) := ⟨h5_⟩
    have n6_ : Aside0 (gb168 ≠ gb184) := ⟨h6_⟩
    have n7_ : Aside0 (gb184 ≠ gb168) := ⟨h7_⟩
    have n8_ : Aside0 (gb173 ≠ gb184) := ⟨h8_⟩
    have n9_ : Aside0 (gb184 ≠ gb173) := ⟨h9_⟩
    have n10_ : Aside0 (gb185 ≠ gb184) := ⟨h10_⟩
    have n11_ : Aside0 (gb184 ≠ gb185) := ⟨h11_⟩
    have n12_ : Aside0 (w.heap.size ≤ gb185) := ⟨h12_⟩
    have n13_ : Aside0 (w.heap.size ≤ gb185) := ⟨h13_⟩
    have n14_ : Aside0 (gb168 ≠ gb185) := ⟨h14_⟩
    have n15_ : Aside0 (gb185 ≠ gb168) := ⟨h15_⟩
    have n16_ : Aside0 (gb173 ≠ gb185) := ⟨h16_⟩
    have n17_ : Aside0 (gb185 ≠ gb173) := ⟨h17_⟩
    have n18_ : Aside0 (Below w.heap.size w w36) := ⟨h18_⟩
    clear BK168
    clear BK173
    clear HB
    clear h0_ h1_ h2_ h3_ h4_ h5_ h6_ h7_ h8_ h9_ h10_ h11_ h12_ h13_ h14_ h15_ h16_ h17_ h18_
    have BK168 := n0_
    have BK173 := n1_
    have BK184 := n2_
    have BK185 := n3_
    have GW184 := n4_
    have GE184 := n5_
    have NB168_184 := n6_
    have NB184_168 := n7_
    have NB173_184 := n8_
    have NB184_173 := n9_
    have NB185_184 := n10_
    have NB184_185 := n11_
    have GW185 := n12_
    have GE185 := n13_
    have NB168_185 := n14_
    have NB185_168 := n15_
    have NB173_185 := n16_
    have NB185_173 := n17_
    have HB := n18_
    clear n0_ n1_ n2_ n3_ n4_ n5_ n6_ n7_ n8_ n9_ n10_ n11_ n12_ n13_ n14_ n15_ n16_ n17_ n18_
    have hHeld : w36.cell? ⟨gb173, 0, none⟩ = some (.int .i64 t169) ∧ w36.cell? ⟨gb173, 1, none⟩ = some (.int .i64 t170) ∧ w36.cell? ⟨gb173, 2, none⟩ = some (.int .i64 t171) := hS_
    refine norm_ (a' := ?_) ?_ ?_
    rotate_left
    · simp only [putAll, Act.put, sa, sb, sc]
      rfl
    refine one_ (i := 8) (N := none) #[true, true, true, true, true, true, true, true, true, false] rfl rfl (one_of HT_.out (by kernel_rfl)) (by decide) (fun K hK => ?_)
    have hs37 : w36.cell? ⟨gb184, 0, none⟩ = some (.int .i64 0) := (blk_cell BK184.out 0).trans rfl
    have hfs37 := blk_frozen BK184.out 0
    have hns37_0 := NB168_184.out
    have hns37_1 := NB173_184.out
    have hns37_3 := NB185_184.out
    have hms37_0 := NB184_168.out
    have hms37_1 := NB184_173.out
    have hms37_3 := NB184_185.out
    have hs38 : w36.cell? ⟨gb184, 1, none⟩ = some (.int .i64 0) := (blk_cell BK184.out 1).trans rfl
    have hfs38 := blk_frozen BK184.out 1
    have hns38_0 := NB168_184.out
    have hns38_1 := NB173_184.out
    have hns38_3 := NB185_184.out
    have hms38_0 := NB184_168.out
    have hms38_1 := NB184_173.out
    have hms38_3 := NB184_185.out
    have hs39 : w36.cell? ⟨gb184, 2, none⟩ = some (.int .i64 0) := (blk_cell BK184.out 2).trans rfl
    have hfs39 := blk_frozen BK184.out 2
    have hns39_0 := NB168_184.out
    have hns39_1 := NB173_184.out
    have hns39_3 := NB185_184.out
    have hms39_0 := NB184_168.out
    have hms39_1 := NB184_173.out
    have hms39_3 := NB184_185.out
    refine skip_ (w1 := ?_) (by rfl) rfl ?_ ?_
    rotate_left
    · go_simp
      rfl
    refine hK.out _ _ ⟨((cell_far (p := ⟨gb184, _, none⟩) NB173_184.out _).trans (((cell_far (p := ⟨gb184, _, none⟩) NB173_184.out _).trans (((cell_far (p := ⟨gb184, _, none⟩) NB173_184.out _).trans (hHeld.1)))))), ((cell_far (p := ⟨gb184, _, none⟩) NB173_184.out _).trans (((cell_far (p := ⟨gb184, _, none⟩) NB173_184.out _).trans (((cell_far (p := ⟨gb184, _, none⟩) NB173_184.out _).trans (hHeld.2.1)))))), ((cell_far (p := ⟨gb184, _, none⟩) NB173_184.out _).trans (((cell_far (p := ⟨gb184, _, none⟩) NB173_184.out _).trans (((cell_far (p := ⟨gb184, _, none⟩) NB173_184.out _).trans (hHeld.2.2))))))⟩ (fun hHeld => ?_)
    clear hK K
    refine one_ (i := 9) (N := none) #[true, true, true, true, true, true, true, true, true, true] rfl rfl (one_of HT_.out (by kernel_rfl)) (by decide) (fun K hK => ?_)
    have hs40 : w36.cell? ⟨gb185, 0, none⟩ = some (.int .i64 0) := (blk_cell BK185.out 0).trans rfl
    have hfs40 := blk_frozen BK185.out 0
    have hns40_0 := NB168_185.out
    have hns40_1 := NB173_185.out
    have hns40_2 := NB184_185.out
    have hms40_0 := NB185_168.out
    have hms40_1 := NB185_173.out
    have hms40_2 := NB185_184.out
    have hs41 : w36.cell? ⟨gb185, 1, none⟩ = some (.int .i64 0) := (blk_cell BK185.out 1).trans rfl
    have hfs41 := blk_frozen BK185.out 1
    have hns41_0 := NB168_185.out
    have hns41_1 := NB173_185.out
    have hns41_2 := NB184_185.out
    have hms41_0 := NB185_168.out
    have hms41_1 := NB185_173.out
    have hms41_2 := NB185_184.out
    have hs42 : w36.cell? ⟨gb185, 2, none⟩ = some (.int .i64 0) := (blk_cell BK185.out 2).trans rfl
    have hfs42 := blk_frozen BK185.out 2
    have hns42_0 := NB168_185.out
    have hns42_1 := NB173_185.out
    have hns42_2 := NB184_185.out
    have hms42_0 := NB185_168.out
    have hms42_1 := NB185_173.out
    have hms42_2 := NB185_184.out
    refine skip_ (w1 := ?_) (by rfl) rfl ?_ ?_
    rotate_left
    · go_simp
      rfl
    refine hK.out _ _ ⟨((cell_far (p := ⟨gb185, _, none⟩) NB173_185.out _).trans (((cell_far (p := ⟨gb185, _, none⟩) NB173_185.out _).trans (((cell_far (p := ⟨gb185, _, none⟩) NB173_185.out _).trans (hHeld.1)))))), ((cell_far (p := ⟨gb185, _, none⟩) NB173_185.out _).trans (((cell_far (p := ⟨gb185, _, none⟩) NB173_185.out _).trans (((cell_far (p := ⟨gb185, _, none⟩) NB173_185.out _).trans (hHeld.2.1)))))), ((cell_far (p := ⟨gb185, _, none⟩) NB173_185.out _).trans (((cell_far (p := ⟨gb185, _, none⟩) NB173_185.out _).trans (((cell_far (p := ⟨gb185, _, none⟩) NB173_185.out _).trans (hHeld.2.2))))))⟩ (fun hHeld => ?_)
    clear hK K
    refine done_ (done_of HT_.out (by kernel_rfl)) ?_
    go_upto_region 7 with (fail)
    go_cut [86] (fun v86 wc => ∃ (kq : Nat) (x86_26 : Bool), v86 = .bool x86_26 ∧ Aside0 (windrowlaw06_LayoutApart.j1 kq (wrap64 (Int.tmod (IntKind.u64.wrap (a0_3)) (IntKind.u64.wrap (t176)))) x86_26 t169 t170 t171 t178 t179 t180 = some r) ∧ Aside0 (kq ≤ kj2) ∧ Aside0 (wc.heap[gb168]? = some (.cells #[.int .i64 a0_0, .int .i64 a0_1, .int .i64 a0_2, .int .i64 a0_3, .int .i64 a0_4] 57 (0, 0))) ∧ Aside0 (wc.heap[gb173]? = some (.cells #[.int .i64 t169, .int .i64 t170, .int .i64 t171] 23 (0, 0))) ∧ Aside0 (wc.heap[gb184]? = some (.cells #[.int .i64 t178, .int .i64 t179, .int .i64 t180] 52 (0, 0))) ∧ Aside0 (wc.heap[gb185]? = some (.cells #[.int .i64 t181, .int .i64 t182, .int .i64 t183] 52 (0, 0))) ∧ Aside0 (Below w.heap.size w wc))
    case first =>
      have H := HC27.out
      clear HC27
      by_cases c43 : (t178 == t181 && (t179 == t182 && (t180 == t183))) = true
      rotate_left
      · rw [if_neg c43] at H
        have c43b0 : (t178 == t181 && (t179 == t182 && (t180 == t183))) = false := by simpa using c43
        (try (have c43b1 : decide (t178 = t181 && (t179 == t182 && (t180 == t183))) = false := by simpa using c43))
        (try (have c43b2 : (t178 == t181 && (t179 == t182 && (t180 == t183))) = false := by simpa using c43))
        (try (have c43b3 : ¬ (t178 = t181 && (t179 == t182 && (t180 == t183))) := by simpa using c43))
        clear c43
        (first | rw [c43b0] | (simp only [i64_w, i32_w]; rw [c43b0]) | rw [c43b1] | rw [c43b2] | rw [c43b3] | skip)
        have H' := Aside0.mk H
        clear H
        have hnb59 := NB184_168.out
        have hnc59 := NB168_184.out
        have hnb60 := NB184_173.out
        have hnc60 := NB173_184.out
        have hnb61 := NB184_185.out
        have hnc61 := NB185_184.out
        have hcz62_0 : w36.cell? ⟨gb184, 0, none⟩ = some (.int .i64 0) := (blk_cell BK184.out 0).trans rfl
        have hcz62_1 : w36.cell? ⟨gb184, 1, none⟩ = some (.int .i64 0) := (blk_cell BK184.out 1).trans rfl
        have hcz62_2 : w36.cell? ⟨gb184, 2, none⟩ = some (.int .i64 0) := (blk_cell BK184.out 2).trans rfl
        have hfz62_0 := blk_frozen BK184.out 0
        have hfz62_1 := blk_frozen BK184.out 1
        have hfz62_2 := blk_frozen BK184.out 2
        have hnb63 := NB185_168.out
        have hnc63 := NB168_185.out
        have hnb64 := NB185_173.out
        have hnc64 := NB173_185.out
        have hcz65_0 : w36.cell? ⟨gb185, 0, none⟩ = some (.int .i64 0) := (blk_cell BK185.out 0).trans rfl
        have hcz65_1 : w36.cell? ⟨gb185, 1, none⟩ = some (.int .i64 0) := (blk_cell BK185.out 1).trans rfl
        have hcz65_2 : w36.cell? ⟨gb185, 2, none⟩ = some (.int .i64 0) := (blk_cell BK185.out 2).trans rfl
        have hfz65_0 := blk_frozen BK185.out 0
        have hfz65_1 := blk_frozen BK185.out 1
        have hfz65_2 := blk_frozen BK185.out 2
        go_wp2
        go_meet
        case rel => exact ⟨_, (false), (by first | rfl | (simp; done) | (simp [*]; done)), H', ⟨by have := HJ2.out; first | omega | exact Nat.le_refl _⟩, ⟨by (with_reducible repeat (first | refine blk_drewN ?_ _ | refine blk_drew ?_ | refine blk_alloc ?_ _)); refine blk_far ?_ NB168_185.out _; (with_reducible repeat (first | refine blk_drewN ?_ _ | refine blk_drew ?_ | refine blk_alloc ?_ _)); refine blk_far ?_ NB168_185.out _; (with_reducible repeat (first | refine blk_drewN ?_ _ | refine blk_drew ?_ | refine blk_alloc ?_ _)); refine blk_far ?_ NB168_185.out _; (with_reducible repeat (first | refine blk_drewN ?_ _ | refine blk_drew ?_ | refine blk_alloc ?_ _)); refine blk_far ?_ NB168_184.out _; (with_reducible repeat (first | refine blk_drewN ?_ _ | refine blk_drew ?_ | refine blk_alloc ?_ _)); refine blk_far ?_ NB168_184.out _; (with_reducible repeat (first | refine blk_drewN ?_ _ | refine blk_drew ?_ | refine blk_alloc ?_ _)); refine blk_far ?_ NB168_184.out _; (with_reducible repeat (first | refine blk_drewN ?_ _ | refine blk_drew ?_ | refine blk_alloc ?_ _)); exact BK168.out⟩, ⟨by (with_reducible repeat (first | refine blk_drewN ?_ _ | refine blk_drew ?_ | refine blk_alloc ?_ _)); refine blk_far ?_ NB173_185.out _; (with_reducible repeat (first | refine blk_drewN ?_ _ | refine blk_drew ?_ | refine blk_alloc ?_ _)); refine blk_far ?_ NB173_185.out _; (with_reducible repeat (first | refine blk_drewN ?_ _ | refine blk_drew ?_ | refine blk_alloc ?_ _)); refine blk_far ?_ NB173_185.out _; (with_reducible repeat (first | refine blk_drewN ?_ _ | refine blk_drew ?_ | refine blk_alloc ?_ _)); refine blk_far ?_ NB173_184.out _; (with_reducible repeat (first | refine blk_drewN ?_ _ | refine blk_drew ?_ | refine blk_alloc ?_ _)); refine blk_far ?_ NB173_184.out _; (with_reducible repeat (first | refine blk_drewN ?_ _ | refine blk_drew ?_ | refine blk_alloc ?_ _)); refine blk_far ?_ NB173_184.out _; (with_reducible repeat (first | refine blk_drewN ?_ _ | refine blk_drew ?_ | refine blk_alloc ?_ _)); exact BK173.out⟩, ⟨by (with_reducible repeat (first | refine blk_drewN ?_ _ | refine blk_drew ?_ | refine blk_alloc ?_ _)); refine blk_far ?_ NB184_185.out _; (with_reducible repeat (first | refine blk_drewN ?_ _ | refine blk_drew ?_ | refine blk_alloc ?_ _)); refine blk_far ?_ NB184_185.out _; (with_reducible repeat (first | refine blk_drewN ?_ _ | refine blk_drew ?_ | refine blk_alloc ?_ _)); refine blk_far ?_ NB184_185.out _; (with_reducible repeat (first | refine blk_drewN ?_ _ | refine blk_drew ?_ | refine blk_alloc ?_ _)); refine blk_put (cs := #[.int .i64 t178, .int .i64 t179, .int .i64 0]) ?_ 2 _ rfl; (with_reducible repeat (first | refine blk_drewN ?_ _ | refine blk_drew ?_ | refine blk_alloc ?_ _)); refine blk_put (cs := #[.int .i64 t178, .int .i64 0, .int .i64 0]) ?_ 1 _ rfl; (with_reducible repeat (first | refine blk_drewN ?_ _ | refine blk_drew ?_ | refine blk_alloc ?_ _)); refine blk_put (cs := #[.int .i64 0, .int .i64 0, .int .i64 0]) ?_ 0 _ rfl; (with_reducible repeat (first | refine blk_drewN ?_ _ | refine blk_drew ?_ | refine blk_alloc ?_ _)); exact BK184.out⟩, ⟨by (with_reducible repeat (first | refine blk_drewN ?_ _ | refine blk_drew ?_ | refine blk_alloc ?_ _)); refine blk_put (cs := #[.int .i64 t181, .int .i64 t182, .int .i64 0]) ?_ 2 _ rfl; (with_reducible repeat (first | refine blk_drewN ?_ _ | refine blk_drew ?_ | refine blk_alloc ?_ _)); refine blk_put (cs := #[.int .i64 t181, .int .i64 0, .int .i64 0]) ?_ 1 _ rfl; (with_reducible repeat (first | refine blk_drewN ?_ _ | refine blk_drew ?_ | refine blk_alloc ?_ _)); refine blk_put (cs := #[.int .i64 0, .int .i64 0, .int .i64 0]) ?_ 0 _ rfl; (with_reducible repeat (first | refine blk_drewN ?_ _ | refine blk_drew ?_ | refine blk_alloc ?_ _)); refine blk_far ?_ NB185_184.out _; (with_reducible repeat (first | refine blk_drewN ?_ _ | refine blk_drew ?_ | refine blk_alloc ?_ _)); refine blk_far ?_ NB185_184.out _; (with_reducible repeat (first | refine blk_drewN ?_ _ | refine blk_drew ?_ | refine blk_alloc ?_ _)); refine blk_far ?_ NB185_184.out _; (with_reducible repeat (first | refine blk_drewN ?_ _ | refine blk_drew ?_ | refine blk_alloc ?_ _)); exact BK185.out⟩, ⟨by repeat (first | (with_reducible first | exact HB.out | apply below_alloc | apply pw_below_drewN | apply below_drew1 | refine below_set ?_ GE168.out | refine below_set ?_ GE173.out | refine below_set ?_ GE184.out | refine below_set ?_ GE185.out) | exact HB.out)⟩⟩
      rw [if_pos c43] at H
      have c43b0 : (t178 == t181 && (t179 == t182 && (t180 == t183))) = true := c43
      (try (have c43b1 : decide (t178 = t181 && (t179 == t182 && (t180 == t183))) = true := by simpa using c43))
      (try (have c43b2 : (t178 == t181 && (t179 == t182 && (t180 == t183))) = true := by simpa using c43))
      clear c43
      (first | rw [c43b0] | (simp only [i64_w, i32_w]; rw [c43b0]) | rw [c43b1] | rw [c43b2] | skip)
      by_cases c44 : (!(t178 == 0) || (!(t179 == 0) || (!(t180 == 0)))) = true
      rotate_left
      · rw [if_neg c44] at H
        have c44b0 : (!(t178 == 0) || (!(t179 == 0) || (!(t180 == 0)))) = false := by simpa using c44
        clear c44
        have H' := Aside0.mk H
        clear H
        have hnb52 := NB184_168.out
        have hnc52 := NB168_184.out
        have hnb53 := NB184_173.out
        have hnc53 := NB173_184.out
        have hnb54 := NB184_185.out
        have hnc54 := NB185_184.out
        have hcz55_0 : w36.cell? ⟨gb184, 0, none⟩ = some (.int .i64 0) := (blk_cell BK184.out 0).trans rfl
        have hcz55_1 : w36.cell? ⟨gb184, 1, none⟩ = some (.int .i64 0) := (blk_cell BK184.out 1).trans rfl
        have hcz55_2 : w36.cell? ⟨gb184, 2, none⟩ = some (.int .i64 0) := (blk_cell BK184.out 2).trans rfl
        have hfz55_0 := blk_frozen BK184.out 0
        have hfz55_1 := blk_frozen BK184.out 1
        have hfz55_2 := blk_frozen BK184.out 2
        have hnb56 := NB185_168.out
        have hnc56 := NB168_185.out
        have hnb57 := NB185_173.out
        have hnc57 := NB173_185.out
        have hcz58_0 : w36.cell? ⟨gb185, 0, none⟩ = some (.int .i64 0) := (blk_cell BK185.out 0).trans rfl
        have hcz58_1 : w36.cell? ⟨gb185, 1, none⟩ = some (.int .i64 0) := (blk_cell BK185.out 1).trans rfl
        have hcz58_2 : w36.cell? ⟨gb185, 2, none⟩ = some (.int .i64 0) := (blk_cell BK185.out 2).trans rfl
        have hfz58_0 := blk_frozen BK185.out 0
        have hfz58_1 := blk_frozen BK185.out 1
        have hfz58_2 := blk_frozen BK185.out 2
        go_wp2
        go_meet
        case rel => exact ⟨_, (false), (by first | rfl | (simp; done) | (simp [*]; done)), H', ⟨by have := HJ2.out; first | omega | exact Nat.le_refl _⟩, ⟨by (with_reducible repeat (first | refine blk_drewN ?_ _ | refine blk_drew ?_ | refine blk_alloc ?_ _)); refine blk_far ?_ NB168_185.out _; (with_reducible repeat (first | refine blk_drewN ?_ _ | refine blk_drew ?_ | refine blk_alloc ?_ _)); refine blk_far ?_ NB168_185.out _; (with_reducible repeat (first | refine blk_drewN ?_ _ | refine blk_drew ?_ | refine blk_alloc ?_ _)); refine blk_far ?_ NB168_185.out _; (with_reducible repeat (first | refine blk_drewN ?_ _ | refine blk_drew ?_ | refine blk_alloc ?_ _)); refine blk_far ?_ NB168_184.out _; (with_reducible repeat (first | refine blk_drewN ?_ _ | refine blk_drew ?_ | refine blk_alloc ?_ _)); refine blk_far ?_ NB168_184.out _; (with_reducible repeat (first | refine blk_drewN ?_ _ | refine blk_drew ?_ | refine blk_alloc ?_ _)); refine blk_far ?_ NB168_184.out _; (with_reducible repeat (first | refine blk_drewN ?_ _ | refine blk_drew ?_ | refine blk_alloc ?_ _)); exact BK168.out⟩, ⟨by (with_reducible repeat (first | refine blk_drewN ?_ _ | refine blk_drew ?_ | refine blk_alloc ?_ _)); refine blk_far ?_ NB173_185.out _; (with_reducible repeat (first | refine blk_drewN ?_ _ | refine blk_drew ?_ | refine blk_alloc ?_ _)); refine blk_far ?_ NB173_185.out _; (with_reducible repeat (first | refine blk_drewN ?_ _ | refine blk_drew ?_ | refine blk_alloc ?_ _)); refine blk_far ?_ NB173_185.out _; (with_reducible repeat (first | refine blk_drewN ?_ _ | refine blk_drew ?_ | refine blk_alloc ?_ _)); refine blk_far ?_ NB173_184.out _; (with_reducible repeat (first | refine blk_drewN ?_ _ | refine blk_drew ?_ | refine blk_alloc ?_ _)); refine blk_far ?_ NB173_184.out _; (with_reducible repeat (first | refine blk_drewN ?_ _ | refine blk_drew ?_ | refine blk_alloc ?_ _)); refine blk_far ?_ NB173_184.out _; (with_reducible repeat (first | refine blk_drewN ?_ _ | refine blk_drew ?_ | refine blk_alloc ?_ _)); exact BK173.out⟩, ⟨by (with_reducible repeat (first | refine blk_drewN ?_ _ | refine blk_drew ?_ | refine blk_alloc ?_ _)); refine blk_far ?_ NB184_185.out _; (with_reducible repeat (first | refine blk_drewN ?_ _ | refine blk_drew ?_ | refine blk_alloc ?_ _)); refine blk_far ?_ NB184_185.out _; (with_reducible repeat (first | refine blk_drewN ?_ _ | refine blk_drew ?_ | refine blk_alloc ?_ _)); refine blk_far ?_ NB184_185.out _; (with_reducible repeat (first | refine blk_drewN ?_ _ | refine blk_drew ?_ | refine blk_alloc ?_ _)); refine blk_put (cs := #[.int .i64 t178, .int .i64 t179, .int .i64 0]) ?_ 2 _ rfl; (with_reducible repeat (first | refine blk_drewN ?_ _ | refine blk_drew ?_ | refine blk_alloc ?_ _)); refine blk_put (cs := #[.int .i64 t178, .int .i64 0, .int .i64 0]) ?_ 1 _ rfl; (with_reducible repeat (first | refine blk_drewN ?_ _ | refine blk_drew ?_ | refine blk_alloc ?_ _)); refine blk_put (cs := #[.int .i64 0, .int .i64 0, .int .i64 0]) ?_ 0 _ rfl; (with_reducible repeat (first | refine blk_drewN ?_ _ | refine blk_drew ?_ | refine blk_alloc ?_ _)); exact BK184.out⟩, ⟨by (with_reducible repeat (first | refine blk_drewN ?_ _ | refine blk_drew ?_ | refine blk_alloc ?_ _)); refine blk_put (cs := #[.int .i64 t181, .int .i64 t182, .int .i64 0]) ?_ 2 _ rfl; (with_reducible repeat (first | refine blk_drewN ?_ _ | refine blk_drew ?_ | refine blk_alloc ?_ _)); refine blk_put (cs := #[.int .i64 t181, .int .i64 0, .int .i64 0]) ?_ 1 _ rfl; (with_reducible repeat (first | refine blk_drewN ?_ _ | refine blk_drew ?_ | refine blk_alloc ?_ _)); refine blk_put (cs := #[.int .i64 0, .int .i64 0, .int .i64 0]) ?_ 0 _ rfl; (with_reducible repeat (first | refine blk_drewN ?_ _ | refine blk_drew ?_ | refine blk_alloc ?_ _)); refine blk_far ?_ NB185_184.out _; (with_reducible repeat (first | refine blk_drewN ?_ _ | refine blk_drew ?_ | refine blk_alloc ?_ _)); refine blk_far ?_ NB185_184.out _; (with_reducible repeat (first | refine blk_drewN ?_ _ | refine blk_drew ?_ | refine blk_alloc ?_ _)); refine blk_far ?_ NB185_184.out _; (with_reducible repeat (first | refine blk_drewN ?_ _ | refine blk_drew ?_ | refine blk_alloc ?_ _)); exact BK185.out⟩, ⟨by repeat (first | (with_reducible first | exact HB.out | apply below_alloc | apply pw_below_drewN | apply below_drew1 | refine below_set ?_ GE168.out | refine below_set ?_ GE173.out | refine below_set ?_ GE184.out | refine below_set ?_ GE185.out) | exact HB.out)⟩⟩
      rw [if_pos c44] at H
      have c44b0 : (!(t178 == 0) || (!(t179 == 0) || (!(t180 == 0)))) = true := c44
      clear c44
      have H' := Aside0.mk H
      clear H
      have hnb45 := NB184_168.out
      have hnc45 := NB168_184.out
      have hnb46 := NB184_173.out
      have hnc46 := NB173_184.out
      have hnb47 := NB184_185.out
      have hnc47 := NB185_184.out
      have hcz48_0 : w36.cell? ⟨gb184, 0, none⟩ = some (.int .i64 0) := (blk_cell BK184.out 0).trans rfl
      have hcz48_1 : w36.cell? ⟨gb184, 1, none⟩ = some (.int .i64 0) := (blk_cell BK184.out 1).trans rfl
      have hcz48_2 : w36.cell? ⟨gb184, 2, none⟩ = some (.int .i64 0) := (blk_cell BK184.out 2).trans rfl
      have hfz48_0 := blk_frozen BK184.out 0
      have hfz48_1 := blk_frozen BK184.out 1
      have hfz48_2 := blk_frozen BK184.out 2
      have hnb49 := NB185_168.out
      have hnc49 := NB168_185.out
      have hnb50 := NB185_173.out
      have hnc50 := NB173_185.out
      have hcz51_0 : w36.cell? ⟨gb185, 0, none⟩ = some (.int .i64 0) := (blk_cell BK185.out 0).trans rfl
      have hcz51_1 : w36.cell? ⟨gb185, 1, none⟩ = some (.int .i64 0) := (blk_cell BK185.out 1).trans rfl
      have hcz51_2 : w36.cell? ⟨gb185, 2, none⟩ = some (.int .i64 0) := (blk_cell BK185.out 2).trans rfl
      have hfz51_0 := blk_frozen BK185.out 0
      have hfz51_1 := blk_frozen BK185.out 1
      have hfz51_2 := blk_frozen BK185.out 2
      go_wp2
      go_meet
      case rel => exact ⟨_, (((wrap64 (Int.tmod (IntKind.u64.wrap (a0_3)) (IntKind.u64.wrap (t176)))) != (wrap64 (Int.tmod (IntKind.u64.wrap (a0_4)) (IntKind.u64.wrap (t176)))))), (by first | rfl | (simp; done) | (simp [*]; done)), H', ⟨by have := HJ2.out; first | omega | exact Nat.le_refl _⟩, ⟨by (with_reducible repeat (first | refine blk_drewN ?_ _ | refine blk_drew ?_ | refine blk_alloc ?_ _)); refine blk_far ?_ NB168_185.out _; (with_reducible repeat (first | refine blk_drewN ?_ _ | refine blk_drew ?_ | refine blk_alloc ?_ _)); refine blk_far ?_ NB168_185.out _; (with_reducible repeat (first | refine blk_drewN ?_ _ | refine blk_drew ?_ | refine blk_alloc ?_ _)); refine blk_far ?_ NB168_185.out _; (with_reducible repeat (first | refine blk_drewN ?_ _ | refine blk_drew ?_ | refine blk_alloc ?_ _)); refine blk_far ?_ NB168_184.out _; (with_reducible repeat (first | refine blk_drewN ?_ _ | refine blk_drew ?_ | refine blk_alloc ?_ _)); refine blk_far ?_ NB168_184.out _; (with_reducible repeat (first | refine blk_drewN ?_ _ | refine blk_drew ?_ | refine blk_alloc ?_ _)); refine blk_far ?_ NB168_184.out _; (with_reducible repeat (first | refine blk_drewN ?_ _ | refine blk_drew ?_ | refine blk_alloc ?_ _)); exact BK168.out⟩, ⟨by (with_reducible repeat (first | refine blk_drewN ?_ _ | refine blk_drew ?_ | refine blk_alloc ?_ _)); refine blk_far ?_ NB173_185.out _; (with_reducible repeat (first | refine blk_drewN ?_ _ | refine blk_drew ?_ | refine blk_alloc ?_ _)); refine blk_far ?_ NB173_185.out _; (with_reducible repeat (first | refine blk_drewN ?_ _ | refine blk_drew ?_ | refine blk_alloc ?_ _)); refine blk_far ?_ NB173_185.out _; (with_reducible repeat (first | refine blk_drewN ?_ _ | refine blk_drew ?_ | refine blk_alloc ?_ _)); refine blk_far ?_ NB173_184.out _; (with_reducible repeat (first | refine blk_drewN ?_ _ | refine blk_drew ?_ | refine blk_alloc ?_ _)); refine blk_far ?_ NB173_184.out _; (with_reducible repeat (first | refine blk_drewN ?_ _ | refine blk_drew ?_ | refine blk_alloc ?_ _)); refine blk_far ?_ NB173_184.out _; (with_reducible repeat (first | refine blk_drewN ?_ _ | refine blk_drew ?_ | refine blk_alloc ?_ _)); exact BK173.out⟩, ⟨by (with_reducible repeat (first | refine blk_drewN ?_ _ | refine blk_drew ?_ | refine blk_alloc ?_ _)); refine blk_far ?_ NB184_185.out _; (with_reducible repeat (first | refine blk_drewN ?_ _ | refine blk_drew ?_ | refine blk_alloc ?_ _)); refine blk_far ?_ NB184_185.out _; (with_reducible repeat (first | refine blk_drewN ?_ _ | refine blk_drew ?_ | refine blk_alloc ?_ _)); refine blk_far ?_ NB184_185.out _; (with_reducible repeat (first | refine blk_drewN ?_ _ | refine blk_drew ?_ | refine blk_alloc ?_ _)); refine blk_put (cs := #[.int .i64 t178, .int .i64 t179, .int .i64 0]) ?_ 2 _ rfl; (with_reducible repeat (first | refine blk_drewN ?_ _ | refine blk_drew ?_ | refine blk_alloc ?_ _)); refine blk_put (cs := #[.int .i64 t178, .int .i64 0, .int .i64 0]) ?_ 1 _ rfl; (with_reducible repeat (first | refine blk_drewN ?_ _ | refine blk_drew ?_ | refine blk_alloc ?_ _)); refine blk_put (cs := #[.int .i64 0, .int .i64 0, .int .i64 0]) ?_ 0 _ rfl; (with_reducible repeat (first | refine blk_drewN ?_ _ | refine blk_drew ?_ | refine blk_alloc ?_ _)); exact BK184.out⟩, ⟨by (with_reducible repeat (first | refine blk_drewN ?_ _ | refine blk_drew ?_ | refine blk_alloc ?_ _)); refine blk_put (cs := #[.int .i64 t181, .int .i64 t182, .int .i64 0]) ?_ 2 _ rfl; (with_reducible repeat (first | refine blk_drewN ?_ _ | refine blk_drew ?_ | refine blk_alloc ?_ _)); refine blk_put (cs := #[.int .i64 t181, .int .i64 0, .int .i64 0]) ?_ 1 _ rfl; (with_reducible repeat (first | refine blk_drewN ?_ _ | refine blk_drew ?_ | refine blk_alloc ?_ _)); refine blk_put (cs := #[.int .i64 0, .int .i64 0, .int .i64 0]) ?_ 0 _ rfl; (with_reducible repeat (first | refine blk_drewN ?_ _ | refine blk_drew ?_ | refine blk_alloc ?_ _)); refine blk_far ?_ NB185_184.out _; (with_reducible repeat (first | refine blk_drewN ?_ _ | refine blk_drew ?_ | refine blk_alloc ?_ _)); refine blk_far ?_ NB185_184.out _; (with_reducible repeat (first | refine blk_drewN ?_ _ | refine blk_drew ?_ | refine blk_alloc ?_ _)); refine blk_far ?_ NB185_184.out _; (with_reducible repeat (first | refine blk_drewN ?_ _ | refine blk_drew ?_ | refine blk_alloc ?_ _)); exact BK185.out⟩, ⟨by repeat (first | (with_reducible first | exact HB.out | apply below_alloc | apply pw_below_drewN | apply below_drew1 | refine below_set ?_ GE168.out | refine below_set ?_ GE173.out | refine below_set ?_ GE184.out | refine below_set ?_ GE185.out) | exact HB.out)⟩⟩
    clear HC27
    try clear p2
    try clear c3
    try clear c4
    try clear c5
    try clear c6
    try clear p6
    try clear c32
    try clear c43
    try clear c43b0
    try clear c43b1
    try clear c43b2
    try clear c44
    try clear c44b0
    try clear c45
    try clear c46
    try clear c47
    try clear c49
    try clear c50
    try clear c52
    try clear c53
    try clear c54
    try clear c56
    try clear c57
    try clear c59
    try clear c60
    try clear c61
    try clear c63
    try clear c64
    try clear p64
    try clear hcz48_0
    try clear hcz48_1
    try clear hcz48_2
    try clear hcz51_0
    try clear hcz51_1
    try clear hcz51_2
    try clear hcz55_0
    try clear hcz55_1
    try clear hcz55_2
    try clear hcz58_0
    try clear hcz58_1
    try clear hcz58_2
    try clear hcz62_0
    try clear hcz62_1
    try clear hcz62_2
    try clear hcz65_0
    try clear hcz65_1
    try clear hcz65_2
    try clear hfz48_0
    try clear hfz48_1
    try clear hfz48_2
    try clear hfz51_0
    try clear hfz51_1
    try clear hfz51_2
    try clear hfz55_0
    try clear hfz55_1
    try clear hfz55_2
    try clear hfz58_0
    try clear hfz58_1
    try clear hfz58_2
    try clear hfz62_0
    try clear hfz62_1
    try clear hfz62_2
    try clear hfz65_0
    try clear hfz65_1
    try clear hfz65_2
    obtain ⟨kq, x86_26, rfl, HA, HJ26, BK168, BK173, BK184, BK185, HB⟩ := hcut
    cases kq with
    | zero => exact absurd HA.out (by simp [windrowlaw06_LayoutApart.j1])
    | succ kj26 =>
      have H := HA.out
      clear HA
      simp only [windrowlaw06_LayoutApart.j1] at H
      by_cases c66 : x86_26 = true
      · subst c66
        have H1 : (some false) = some r := by rw [if_pos rfl] at H; exact H
        clear H
        have H := H1
        clear H1
        exact absurd (H.trans (congrArg some HTRUE_.out)) (by simp)
      replace c66 := Bool.eq_false_iff.mpr c66
      subst c66
      have H1 : (if t178 = 0 then (if (wrap64 (Int.tmod (IntKind.u64.wrap (a0_3)) (IntKind.u64.wrap (t176)))) < 8 then (some true) else ((layout_Plan_Base.f t169 t170 t171).bind fun t186 => (some (decide ((wrap64 (Int.tmod (IntKind.u64.wrap (a0_3)) (IntKind.u64.wrap (t176)))) < t186))))) else (if t178 = 1 then (some (t179 == (wrap64 (Int.tmod (IntKind.u64.wrap (a0_3)) (IntKind.u64.wrap (t176)))))) else (if t178 = 2 then ((layout_Plan_Global.f t169 t170 t171 t179).bind fun t187 => (some (t187 == (wrap64 (Int.tmod (IntKind.u64.wrap (a0_3)) (IntKind.u64.wrap (t176))))))) else (if t178 = 3 then ((layout_Plan_Status.f t169 t170 t171 t179).bind fun t188 => ((layout_Plan_Ack.f t169 t170 t171 t179).bind fun t189 => ((layout_Plan_Result.f t169 t170 t171 t179).bind fun t190 => ((layout_Plan_Head.f t169 t170 t171 t179).bind fun t191 => ((layout_Plan_Tail.f t169 t170 t171 t179).bind fun t192 => ((some (([t188, t189, t190, t191, t192] : List Int) : List Int)).bind fun y193 => (if t180 ≥ 0 then (if t180 < 5 then (if 0 ≤ t180 then (if t180 < (y193.length : Int) then (some ((rd y193 t180) == (wrap64 (Int.tmod (IntKind.u64.wrap (a0_3)) (IntKind.u64.wrap (t176)))))) else (none)) else (none)) else (some ((-1) == (wrap64 (Int.tmod (IntKind.u64.wrap (a0_3)) (IntKind.u64.wrap (t176))))))) else (some ((-1) == (wrap64 (Int.tmod (IntKind.u64.wrap (a0_3)) (IntKind.u64.wrap (t176))))))))))))) else (if t178 = 4 then ((layout_Plan_Slot.f t169 t170 t171 t179 (IntKind.u64.wrap (t180))).bind fun t197 => (some (t197 == (wrap64 (Int.tmod (IntKind.u64.wrap (a0_3)) (IntKind.u64.wrap (t176))))))) else (if t178 = 5 then ((layout_Plan_Entry.f t169 t170 t171 t179).bind fun t198 => (some (t198 == (wrap64 (Int.tmod (IntKind.u64.wrap (a0_3)) (IntKind.u64.wrap (t176))))))) else (if t178 = 6 then ((layout_Plan_Alloc.f t169 t170 t171 t179).bind fun t199 => (some (t199 == (wrap64 (Int.tmod (IntKind.u64.wrap (a0_3)) (IntKind.u64.wrap (t176))))))) else (if t178 = 7 then ((layout_Plan_Mark.f t169 t170 t171 t179).bind fun t200 => (some (t200 == (wrap64 (Int.tmod (IntKind.u64.wrap (a0_3)) (IntKind.u64.wrap (t176))))))) else (if t178 = 8 then ((layout_Plan_Addr.f t169 t170 t171 t179 t180).bind fun t201 => (some (t201 == (wrap64 (Int.tmod (IntKind.u64.wrap (a0_3)) (IntKind.u64.wrap (t176))))))) else (some false)))))))))) = some r := by rw [if_neg (show ¬ (false = true) by decide)] at H; exact H
      clear H
      have H := H1
      clear H1
      by_cases c67 : t178 = 0
      · rw [if_pos c67] at H
        have c67b0 : (t178 == 0) = true := beq_iff_eq.mpr c67
        have c67b1 : (t178 != 0) = false := bne_eq_false_iff_eq.mpr c67
        clear c67
        by_cases c68 : (wrap64 (Int.tmod (IntKind.u64.wrap (a0_3)) (IntKind.u64.wrap (t176)))) < 8
        · rw [if_pos c68] at H
          have c68b0 : decide ((wrap64 (Int.tmod (IntKind.u64.wrap (a0_3)) (IntKind.u64.wrap (t176)))) < 8) = true := decide_eq_true c68
          clear c68
          obtain rfl := Option.some.inj H
          have hnb69 := NB184_168.out
          have hnc69 := NB168_184.out
          have hnb70 := NB184_173.out
          have hnc70 := NB173_184.out
          have hnb71 := NB184_185.out
          have hnc71 := NB185_184.out
          have hcz72_0 : wc.cell? ⟨gb184, 0, none⟩ = some (.int .i64 t178) := (blk_cell BK184.out 0).trans rfl
          have hcz72_1 : wc.cell? ⟨gb184, 1, none⟩ = some (.int .i64 t179) := (blk_cell BK184.out 1).trans rfl
          have hcz72_2 : wc.cell? ⟨gb184, 2, none⟩ = some (.int .i64 t180) := (blk_cell BK184.out 2).trans rfl
          have hfz72_0 := blk_frozen BK184.out 0
          have hfz72_1 := blk_frozen BK184.out 1
          have hfz72_2 := blk_frozen BK184.out 2
          go_wp2
          go_ret
          exact ⟨by first | rfl | (simp [errW_none, errW_some] <;> rfl) | (simp [*, errW_none, errW_some] <;> rfl), by repeat (first | (with_reducible first | exact HB.out | apply below_alloc | apply pw_below_drewN | apply below_drew1 | refine below_set ?_ GE168.out | refine below_set ?_ GE173.out | refine below_set ?_ GE184.out | refine below_set ?_ GE185.out) | exact HB.out)⟩
        rw [if_neg c68] at H
        have c68b0 : decide ((wrap64 (Int.tmod (IntKind.u64.wrap (a0_3)) (IntKind.u64.wrap (t176)))) < 8) = false := decide_eq_false c68
        clear c68
        replace H := Option.bind_eq_some_iff.mp H
        obtain ⟨t186, A730, H⟩ := H
        replace H : (some (decide ((wrap64 (Int.tmod (IntKind.u64.wrap (a0_3)) (IntKind.u64.wrap (t176)))) < t186))) = some r := H
        have A73 := Aside0.mk A730
        clear A730
        obtain rfl := Option.some.inj H
        have hnb74 := NB184_168.out
        have hnc74 := NB168_184.out
        have hnb75 := NB184_173.out
        have hnc75 := NB173_184.out
        have hnb76 := NB184_185.out
        have hnc76 := NB185_184.out
        have hcz77_0 : wc.cell? ⟨gb184, 0, none⟩ = some (.int .i64 t178) := (blk_cell BK184.out 0).trans rfl
        have hcz77_1 : wc.cell? ⟨gb184, 1, none⟩ = some (.int .i64 t179) := (blk_cell BK184.out 1).trans rfl
        have hcz77_2 : wc.cell? ⟨gb184, 2, none⟩ = some (.int .i64 t180) := (blk_cell BK184.out 2).trans rfl
        have hfz77_0 := blk_frozen BK184.out 0
        have hfz77_1 := blk_frozen BK184.out 1
        have hfz77_2 := blk_frozen BK184.out 2
        have hnb78 := NB173_168.out
        have hnc78 := NB168_173.out
        have hnb79 := NB173_185.out
        have hnc79 := NB185_173.out
        have hcz80_0 : wc.cell? ⟨gb173, 0, none⟩ = some (.int .i64 t169) := (blk_cell BK173.out 0).trans rfl
        have hcz80_1 : wc.cell? ⟨gb173, 1, none⟩ = some (.int .i64 t170) := (blk_cell BK173.out 1).trans rfl
        have hcz80_2 : wc.cell? ⟨gb173, 2, none⟩ = some (.int .i64 t171) := (blk_cell BK173.out 2).trans rfl
        have hfz80_0 := blk_frozen BK173.out 0
        have hfz80_1 := blk_frozen BK173.out 1
        have hfz80_2 := blk_frozen BK173.out 2
        go_wp2_with (first | (go_at_call 13; (with_reducible refine (layout_Plan_Base.calls t169 t170 t171 t186 _ A73.out).mono ?_); rintro e w81 ⟨rfl, hb⟩; have n0_ := Aside0.mk (blk_below (g := gb168) (o := .cells #[.int .i64 a0_0, .int .i64 a0_1, .int .i64 a0_2, .int .i64 a0_3, .int .i64 a0_4] 57 (0, 0)) (pk BK168.out) hb); have n1_ := Aside0.mk (blk_below (g := gb173) (o := .cells #[.int .i64 t169, .int .i64 t170, .int .i64 t171] 23 (0, 0)) (pk BK173.out) hb); have n2_ := Aside0.mk (blk_below (g := gb184) (o := .cells #[.int .i64 t178, .int .i64 t179, .int .i64 t180] 52 (0, 0)) (pk BK184.out) hb); have n3_ := Aside0.mk (blk_below (g := gb185) (o := .cells #[.int .i64 t181, .int .i64 t182, .int .i64 t183] 52 (0, 0)) (pk BK185.out) hb); have n4_ := Aside0.mk (below_step (pb HB.out) hb); clear BK168; clear BK173; clear BK184; clear BK185; clear HB; have BK168 := n0_; have BK173 := n1_; have BK184 := n2_; have BK185 := n3_; have HB := n4_; clear n0_ n1_ n2_ n3_ n4_; (try clear hb); (try clear hb2); (try clear hk); (try clear hi)))
        go_ret
        exact ⟨by first | rfl | (simp [errW_none, errW_some] <;> rfl) | (simp [*, errW_none, errW_some] <;> rfl), by repeat (first | (with_reducible first | exact HB.out | apply below_alloc | apply pw_below_drewN | apply below_drew1 | refine below_set ?_ GE168.out | refine below_set ?_ GE173.out | refine below_set ?_ GE184.out | refine below_set ?_ GE185.out) | exact HB.out)⟩
      rw [if_neg c67] at H
      have c67b0 : (t178 == 0) = false := beq_eq_false_iff_ne.mpr c67
      have c67b1 : (t178 != 0) = true := bne_iff_ne.mpr c67
      by_cases c82 : t178 = 1
      · rw [if_pos c82] at H
        have c82b0 : (t178 == 1) = true := beq_iff_eq.mpr c82
        have c82b1 : (t178 != 1) = false := bne_eq_false_iff_eq.mpr c82
        clear c82
        obtain rfl := Option.some.inj H
        have hnb83 := NB184_168.out
        have hnc83 := NB168_184.out
        have hnb84 := NB184_173.out
        have hnc84 := NB173_184.out
        have hnb85 := NB184_185.out
        have hnc85 := NB185_184.out
        have hcz86_0 : wc.cell? ⟨gb184, 0, none⟩ = some (.int .i64 t178) := (blk_cell BK184.out 0).trans rfl
        have hcz86_1 : wc.cell? ⟨gb184, 1, none⟩ = some (.int .i64 t179) := (blk_cell BK184.out 1).trans rfl
        have hcz86_2 : wc.cell? ⟨gb184, 2, none⟩ = some (.int .i64 t180) := (blk_cell BK184.out 2).trans rfl
        have hfz86_0 := blk_frozen BK184.out 0
        have hfz86_1 := blk_frozen BK184.out 1
        have hfz86_2 := blk_frozen BK184.out 2
        go_wp2
        go_ret
        exact ⟨by first | rfl | (simp [errW_none, errW_some] <;> rfl) | (simp [*, errW_none, errW_some] <;> rfl), by repeat (first | (with_reducible first | exact HB.out | apply below_alloc | apply pw_below_drewN | apply below_drew1 | refine below_set ?_ GE168.out | refine below_set ?_ GE173.out | refine below_set ?_ GE184.out | refine below_set ?_ GE185.out) | exact HB.out)⟩
      rw [if_neg c82] at H
      have c82b0 : (t178 == 1) = false := beq_eq_false_iff_ne.mpr c82
      have c82b1 : (t178 != 1) = true := bne_iff_ne.mpr c82
      by_cases c87 : t178 = 2
      · rw [if_pos c87] at H
        have c87b0 : (t178 == 2) = true := beq_iff_eq.mpr c87
        have c87b1 : (t178 != 2) = false := bne_eq_false_iff_eq.mpr c87
        clear c87
        replace H := Option.bind_eq_some_iff.mp H
        obtain ⟨t187, A880, H⟩ := H
        replace H : (some (t187 == (wrap64 (Int.tmod (IntKind.u64.wrap (a0_3)) (IntKind.u64.wrap (t176)))))) = some r := H
        have A88 := Aside0.mk A880
        clear A880
        obtain rfl := Option.some.inj H
        have hnb89 := NB184_168.out
        have hnc89 := NB168_184.out
        have hnb90 := NB184_173.out
        have hnc90 := NB173_184.out
        have hnb91 := NB184_185.out
        have hnc91 := NB185_184.out
        have hcz92_0 : wc.cell? ⟨gb184, 0, none⟩ = some (.int .i64 t178) := (blk_cell BK184.out 0).trans rfl
        have hcz92_1 : wc.cell? ⟨gb184, 1, none⟩ = some (.int .i64 t179) := (blk_cell BK184.out 1).trans rfl
        have hcz92_2 : wc.cell? ⟨gb184, 2, none⟩ = some (.int .i64 t180) := (blk_cell BK184.out 2).trans rfl
        have hfz92_0 := blk_frozen BK184.out 0
        have hfz92_1 := blk_frozen BK184.out 1
        have hfz92_2 := blk_frozen BK184.out 2
        have hnb93 := NB173_168.out
        have hnc93 := NB168_173.out
        have hnb94 := NB173_185.out
        have hnc94 := NB185_173.out
        have hcz95_0 : wc.cell? ⟨gb173, 0, none⟩ = some (.int .i64 t169) := (blk_cell BK173.out 0).trans rfl
        have hcz95_1 : wc.cell? ⟨gb173, 1, none⟩ = some (.int .i64 t170) := (blk_cell BK173.out 1).trans rfl
        have hcz95_2 : wc.cell? ⟨gb173, 2, none⟩ = some (.int .i64 t171) := (blk_cell BK173.out 2).trans rfl
        have hfz95_0 := blk_frozen BK173.out 0
        have hfz95_1 := blk_frozen BK173.out 1
        have hfz95_2 := blk_frozen BK173.out 2
        go_wp2_with (first | ((with_reducible refine gate_callee (f := 17) rfl ?_); refine goesL_ (some 109) rfl rfl Try.func17 (by kernel_rfl) rfl #[.agg #[.int .i64 t169, .int .i64 t170, .int .i64 t171], .int .i64 t179] rfl (by (try simp only [List.map_toArray, List.map_cons, List.map_nil]); first | done | rfl | (simp only [List.length_drop, List.length_take]; rfl)) ?_; (with_reducible refine (layout_Plan_Global.calls t169 t170 t171 t179 t187 _ A88.out).mono ?_); rintro e w96 ⟨rfl, hb⟩; refine ⟨_, rfl, ?_⟩; have n0_ := Aside0.mk (blk_below (g := gb168) (o := .cells #[.int .i64 a0_0, .int .i64 a0_1, .int .i64 a0_2, .int .i64 a0_3, .int .i64 a0_4] 57 (0, 0)) (pk BK168.out) hb); have n1_ := Aside0.mk (blk_below (g := gb173) (o := .cells #[.int .i64 t169, .int .i64 t170, .int .i64 t171] 23 (0, 0)) (pk BK173.out) hb); have n2_ := Aside0.mk (blk_below (g := gb184) (o := .cells #[.int .i64 t178, .int .i64 t179, .int .i64 t180] 52 (0, 0)) (pk BK184.out) hb); have n3_ := Aside0.mk (blk_below (g := gb185) (o := .cells #[.int .i64 t181, .int .i64 t182, .int .i64 t183] 52 (0, 0)) (pk BK185.out) hb); have n4_ := Aside0.mk (below_step (pb HB.out) hb); clear BK168; clear BK173; clear BK184; clear BK185; clear HB; have BK168 := n0_; have BK173 := n1_; have BK184 := n2_; have BK185 := n3_; have HB := n4_; clear n0_ n1_ n2_ n3_ n4_; (try clear hb); (try clear hb2); (try clear hk); (try clear hi)))
        go_ret
        exact ⟨by first | rfl | (simp [errW_none, errW_some] <;> rfl) | (simp [*, errW_none, errW_some] <;> rfl), by repeat (first | (with_reducible first | exact HB.out | apply below_alloc | apply pw_below_drewN | apply below_drew1 | refine below_set ?_ GE168.out | refine below_set ?_ GE173.out | refine below_set ?_ GE184.out | refine below_set ?_ GE185.out) | exact HB.out)⟩
      rw [if_neg c87] at H
      have c87b0 : (t178 == 2) = false := beq_eq_false_iff_ne.mpr c87
      have c87b1 : (t178 != 2) = true := bne_iff_ne.mpr c87
      by_cases c97 : t178 = 3
      rotate_left
      · rw [if_neg c97] at H
        have c97b0 : (t178 == 3) = false := beq_eq_false_iff_ne.mpr c97
        have c97b1 : (t178 != 3) = true := bne_iff_ne.mpr c97
        by_cases c147 : t178 = 4
        · rw [if_pos c147] at H
          have c147b0 : (t178 == 4) = true := beq_iff_eq.mpr c147
          have c147b1 : (t178 != 4) = false := bne_eq_false_iff_eq.mpr c147
          clear c147
          replace H := Option.bind_eq_some_iff.mp H
          obtain ⟨t197, A1480, H⟩ := H
          replace H : (some (t197 == (wrap64 (Int.tmod (IntKind.u64.wrap (a0_3)) (IntKind.u64.wrap (t176)))))) = some r := H
          have A148 := Aside0.mk A1480
          clear A1480
          obtain rfl := Option.some.inj H
          have hnb149 := NB184_168.out
          have hnc149 := NB168_184.out
          have hnb150 := NB184_173.out
          have hnc150 := NB173_184.out
          have hnb151 := NB184_185.out
          have hnc151 := NB185_184.out
          have hcz152_0 : wc.cell? ⟨gb184, 0, none⟩ = some (.int .i64 t178) := (blk_cell BK184.out 0).trans rfl
          have hcz152_1 : wc.cell? ⟨gb184, 1, none⟩ = some (.int .i64 t179) := (blk_cell BK184.out 1).trans rfl
          have hcz152_2 : wc.cell? ⟨gb184, 2, none⟩ = some (.int .i64 t180) := (blk_cell BK184.out 2).trans rfl
          have hfz152_0 := blk_frozen BK184.out 0
          have hfz152_1 := blk_frozen BK184.out 1
          have hfz152_2 := blk_frozen BK184.out 2
          have hnb153 := NB173_168.out
          have hnc153 := NB168_173.out
          have hnb154 := NB173_185.out
          have hnc154 := NB185_173.out
          have hcz155_0 : wc.cell? ⟨gb173, 0, none⟩ = some (.int .i64 t169) := (blk_cell BK173.out 0).trans rfl
          have hcz155_1 : wc.cell? ⟨gb173, 1, none⟩ = some (.int .i64 t170) := (blk_cell BK173.out 1).trans rfl
          have hcz155_2 : wc.cell? ⟨gb173, 2, none⟩ = some (.int .i64 t171) := (blk_cell BK173.out 2).trans rfl
          have hfz155_0 := blk_frozen BK173.out 0
          have hfz155_1 := blk_frozen BK173.out 1
          have hfz155_2 := blk_frozen BK173.out 2
          go_wp2_with (first | ((with_reducible refine gate_callee (f := 23) rfl ?_); refine goesL_ (some 154) rfl rfl Try.func23 (by kernel_rfl) rfl #[.agg #[.int .i64 t169, .int .i64 t170, .int .i64 t171], .int .i64 t179, .int .u64 (IntKind.u64.wrap (t180))] rfl (by (try simp only [List.map_toArray, List.map_cons, List.map_nil]); first | done | rfl | (simp only [List.length_drop, List.length_take]; rfl)) ?_; (with_reducible refine (layout_Plan_Slot.calls t169 t170 t171 t179 (IntKind.u64.wrap (t180)) t197 _ A148.out).mono ?_); rintro e w156 ⟨rfl, hb⟩; refine ⟨_, rfl, ?_⟩; have n0_ := Aside0.mk (blk_below (g := gb168) (o := .cells #[.int .i64 a0_0, .int .i64 a0_1, .int .i64 a0_2, .int .i64 a0_3, .int .i64 a0_4] 57 (0, 0)) (pk BK168.out) hb); have n1_ := Aside0.mk (blk_below (g := gb173) (o := .cells #[.int .i64 t169, .int .i64 t170, .int .i64 t171] 23 (0, 0)) (pk BK173.out) hb); have n2_ := Aside0.mk (blk_below (g := gb184) (o := .cells #[.int .i64 t178, .int .i64 t179, .int .i64 t180] 52 (0, 0)) (pk BK184.out) hb); have n3_ := Aside0.mk (blk_below (g := gb185) (o := .cells #[.int .i64 t181, .int .i64 t182, .int .i64 t183] 52 (0, 0)) (pk BK185.out) hb); have n4_ := Aside0.mk (below_step (pb HB.out) hb); clear BK168; clear BK173; clear BK184; clear BK185; clear HB; have BK168 := n0_; have BK173 := n1_; have BK184 := n2_; have BK185 := n3_; have HB := n4_; clear n0_ n1_ n2_ n3_ n4_; (try clear hb); (try clear hb2); (try clear hk); (try clear hi)))
          go_ret
          exact ⟨by first | rfl | (simp [errW_none, errW_some] <;> rfl) | (simp [*, errW_none, errW_some] <;> rfl), by repeat (first | (with_reducible first | exact HB.out | apply below_alloc | apply pw_below_drewN | apply below_drew1 | refine below_set ?_ GE168.out | refine below_set ?_ GE173.out | refine below_set ?_ GE184.out | refine below_set ?_ GE185.out) | exact HB.out)⟩
        rw [if_neg c147] at H
        have c147b0 : (t178 == 4) = false := beq_eq_false_iff_ne.mpr c147
        have c147b1 : (t178 != 4) = true := bne_iff_ne.mpr c147
        by_cases c157 : t178 = 5
        · rw [if_pos c157] at H
          have c157b0 : (t178 == 5) = true := beq_iff_eq.mpr c157
          have c157b1 : (t178 != 5) = false := bne_eq_false_iff_eq.mpr c157
          clear c157
          replace H := Option.bind_eq_some_iff.mp H
          obtain ⟨t198, A1580, H⟩ := H
          replace H : (some (t198 == (wrap64 (Int.tmod (IntKind.u64.wrap (a0_3)) (IntKind.u64.wrap (t176)))))) = some r := H
          have A158 := Aside0.mk A1580
          clear A1580
          obtain rfl := Option.some.inj H
          have hnb159 := NB184_168.out
          have hnc159 := NB168_184.out
          have hnb160 := NB184_173.out
          have hnc160 := NB173_184.out
          have hnb161 := NB184_185.out
          have hnc161 := NB185_184.out
          have hcz162_0 : wc.cell? ⟨gb184, 0, none⟩ = some (.int .i64 t178) := (blk_cell BK184.out 0).trans rfl
          have hcz162_1 : wc.cell? ⟨gb184, 1, none⟩ = some (.int .i64 t179) := (blk_cell BK184.out 1).trans rfl
          have hcz162_2 : wc.cell? ⟨gb184, 2, none⟩ = some (.int .i64 t180) := (blk_cell BK184.out 2).trans rfl
          have hfz162_0 := blk_frozen BK184.out 0
          have hfz162_1 := blk_frozen BK184.out 1
          have hfz162_2 := blk_frozen BK184.out 2
          have hnb163 := NB173_168.out
          have hnc163 := NB168_173.out
          have hnb164 := NB173_185.out
          have hnc164 := NB185_173.out
          have hcz165_0 : wc.cell? ⟨gb173, 0, none⟩ = some (.int .i64 t169) := (blk_cell BK173.out 0).trans rfl
          have hcz165_1 : wc.cell? ⟨gb173, 1, none⟩ = some (.int .i64 t170) := (blk_cell BK173.out 1).trans rfl
          have hcz165_2 : wc.cell? ⟨gb173, 2, none⟩ = some (.int .i64 t171) := (blk_cell BK173.out 2).trans rfl
          have hfz165_0 := blk_frozen BK173.out 0
          have hfz165_1 := blk_frozen BK173.out 1
          have hfz165_2 := blk_frozen BK173.out 2
          go_wp2_with (first | ((with_reducible refine gate_callee (f := 24) rfl ?_); refine goesL_ (some 160) rfl rfl Try.func24 (by kernel_rfl) rfl #[.agg #[.int .i64 t169, .int .i64 t170, .int .i64 t171], .int .i64 t179] rfl (by (try simp only [List.map_toArray, List.map_cons, List.map_nil]); first | done | rfl | (simp only [List.length_drop, List.length_take]; rfl)) ?_; (with_reducible refine (layout_Plan_Entry.calls t169 t170 t171 t179 t198 _ A158.out).mono ?_); rintro e w166 ⟨rfl, hb⟩; refine ⟨_, rfl, ?_⟩; have n0_ := Aside0.mk (blk_below (g := gb168) (o := .cells #[.int .i64 a0_0, .int .i64 a0_1, .int .i64 a0_2, .int .i64 a0_3, .int .i64 a0_4] 57 (0, 0)) (pk BK168.out) hb); have n1_ := Aside0.mk (blk_below (g := gb173) (o := .cells #[.int .i64 t169, .int .i64 t170, .int .i64 t171] 23 (0, 0)) (pk BK173.out) hb); have n2_ := Aside0.mk (blk_below (g := gb184) (o := .cells #[.int .i64 t178, .int .i64 t179, .int .i64 t180] 52 (0, 0)) (pk BK184.out) hb); have n3_ := Aside0.mk (blk_below (g := gb185) (o := .cells #[.int .i64 t181, .int .i64 t182, .int .i64 t183] 52 (0, 0)) (pk BK185.out) hb); have n4_ := Aside0.mk (below_step (pb HB.out) hb); clear BK168; clear BK173; clear BK184; clear BK185; clear HB; have BK168 := n0_; have BK173 := n1_; have BK184 := n2_; have BK185 := n3_; have HB := n4_; clear n0_ n1_ n2_ n3_ n4_; (try clear hb); (try clear hb2); (try clear hk); (try clear hi)))
          go_ret
          exact ⟨by first | rfl | (simp [errW_none, errW_some] <;> rfl) | (simp [*, errW_none, errW_some] <;> rfl), by repeat (first | (with_reducible first | exact HB.out | apply below_alloc | apply pw_below_drewN | apply below_drew1 | refine below_set ?_ GE168.out | refine below_set ?_ GE173.out | refine below_set ?_ GE184.out | refine below_set ?_ GE185.out) | exact HB.out)⟩
        rw [if_neg c157] at H
        have c157b0 : (t178 == 5) = false := beq_eq_false_iff_ne.mpr c157
        have c157b1 : (t178 != 5) = true := bne_iff_ne.mpr c157
        by_cases c167 : t178 = 6
        · rw [if_pos c167] at H
          have c167b0 : (t178 == 6) = true := beq_iff_eq.mpr c167
          have c167b1 : (t178 != 6) = false := bne_eq_false_iff_eq.mpr c167
          clear c167
          replace H := Option.bind_eq_some_iff.mp H
          obtain ⟨t199, A1680, H⟩ := H
          replace H : (some (t199 == (wrap64 (Int.tmod (IntKind.u64.wrap (a0_3)) (IntKind.u64.wrap (t176)))))) = some r := H
          have A168 := Aside0.mk A1680
          clear A1680
          obtain rfl := Option.some.inj H
          have hnb169 := NB184_168.out
          have hnc169 := NB168_184.out
          have hnb170 := NB184_173.out
          have hnc170 := NB173_184.out
          have hnb171 := NB184_185.out
          have hnc171 := NB185_184.out
          have hcz172_0 : wc.cell? ⟨gb184, 0, none⟩ = some (.int .i64 t178) := (blk_cell BK184.out 0).trans rfl
          have hcz172_1 : wc.cell? ⟨gb184, 1, none⟩ = some (.int .i64 t179) := (blk_cell BK184.out 1).trans rfl
          have hcz172_2 : wc.cell? ⟨gb184, 2, none⟩ = some (.int .i64 t180) := (blk_cell BK184.out 2).trans rfl
          have hfz172_0 := blk_frozen BK184.out 0
          have hfz172_1 := blk_frozen BK184.out 1
          have hfz172_2 := blk_frozen BK184.out 2
          have hnb173 := NB173_168.out
          have hnc173 := NB168_173.out
          have hnb174 := NB173_185.out
          have hnc174 := NB185_173.out
          have hcz175_0 : wc.cell? ⟨gb173, 0, none⟩ = some (.int .i64 t169) := (blk_cell BK173.out 0).trans rfl
          have hcz175_1 : wc.cell? ⟨gb173, 1, none⟩ = some (.int .i64 t170) := (blk_cell BK173.out 1).trans rfl
          have hcz175_2 : wc.cell? ⟨gb173, 2, none⟩ = some (.int .i64 t171) := (blk_cell BK173.out 2).trans rfl
          have hfz175_0 := blk_frozen BK173.out 0
          have hfz175_1 := blk_frozen BK173.out 1
          have hfz175_2 := blk_frozen BK173.out 2
          go_wp2_with (first | ((with_reducible refine gate_callee (f := 25) rfl ?_); refine goesL_ (some 166) rfl rfl Try.func25 (by kernel_rfl) rfl #[.agg #[.int .i64 t169, .int .i64 t170, .int .i64 t171], .int .i64 t179] rfl (by (try simp only [List.map_toArray, List.map_cons, List.map_nil]); first | done | rfl | (simp only [List.length_drop, List.length_take]; rfl)) ?_; (with_reducible refine (layout_Plan_Alloc.calls t169 t170 t171 t179 t199 _ A168.out).mono ?_); rintro e w176 ⟨rfl, hb⟩; refine ⟨_, rfl, ?_⟩; have n0_ := Aside0.mk (blk_below (g := gb168) (o := .cells #[.int .i64 a0_0, .int .i64 a0_1, .int .i64 a0_2, .int .i64 a0_3, .int .i64 a0_4] 57 (0, 0)) (pk BK168.out) hb); have n1_ := Aside0.mk (blk_below (g := gb173) (o := .cells #[.int .i64 t169, .int .i64 t170, .int .i64 t171] 23 (0, 0)) (pk BK173.out) hb); have n2_ := Aside0.mk (blk_below (g := gb184) (o := .cells #[.int .i64 t178, .int .i64 t179, .int .i64 t180] 52 (0, 0)) (pk BK184.out) hb); have n3_ := Aside0.mk (blk_below (g := gb185) (o := .cells #[.int .i64 t181, .int .i64 t182, .int .i64 t183] 52 (0, 0)) (pk BK185.out) hb); have n4_ := Aside0.mk (below_step (pb HB.out) hb); clear BK168; clear BK173; clear BK184; clear BK185; clear HB; have BK168 := n0_; have BK173 := n1_; have BK184 := n2_; have BK185 := n3_; have HB := n4_; clear n0_ n1_ n2_ n3_ n4_; (try clear hb); (try clear hb2); (try clear hk); (try clear hi)))
          go_ret
          exact ⟨by first | rfl | (simp [errW_none, errW_some] <;> rfl) | (simp [*, errW_none, errW_some] <;> rfl), by repeat (first | (with_reducible first | exact HB.out | apply below_alloc | apply pw_below_drewN | apply below_drew1 | refine below_set ?_ GE168.out | refine below_set ?_ GE173.out | refine below_set ?_ GE184.out | refine below_set ?_ GE185.out) | exact HB.out)⟩
        rw [if_neg c167] at H
        have c167b0 : (t178 == 6) = false := beq_eq_false_iff_ne.mpr c167
        have c167b1 : (t178 != 6) = true := bne_iff_ne.mpr c167
        by_cases c177 : t178 = 7
        · rw [if_pos c177] at H
          have c177b0 : (t178 == 7) = true := beq_iff_eq.mpr c177
          have c177b1 : (t178 != 7) = false := bne_eq_false_iff_eq.mpr c177
          clear c177
          replace H := Option.bind_eq_some_iff.mp H
          obtain ⟨t200, A1780, H⟩ := H
          replace H : (some (t200 == (wrap64 (Int.tmod (IntKind.u64.wrap (a0_3)) (IntKind.u64.wrap (t176)))))) = some r := H
          have A178 := Aside0.mk A1780
          clear A1780
          obtain rfl := Option.some.inj H
          have hnb179 := NB184_168.out
          have hnc179 := NB168_184.out
          have hnb180 := NB184_173.out
          have hnc180 := NB173_184.out
          have hnb181 := NB184_185.out
          have hnc181 := NB185_184.out
          have hcz182_0 : wc.cell? ⟨gb184, 0, none⟩ = some (.int .i64 t178) := (blk_cell BK184.out 0).trans rfl
          have hcz182_1 : wc.cell? ⟨gb184, 1, none⟩ = some (.int .i64 t179) := (blk_cell BK184.out 1).trans rfl
          have hcz182_2 : wc.cell? ⟨gb184, 2, none⟩ = some (.int .i64 t180) := (blk_cell BK184.out 2).trans rfl
          have hfz182_0 := blk_frozen BK184.out 0
          have hfz182_1 := blk_frozen BK184.out 1
          have hfz182_2 := blk_frozen BK184.out 2
          have hnb183 := NB173_168.out
          have hnc183 := NB168_173.out
          have hnb184 := NB173_185.out
          have hnc184 := NB185_173.out
          have hcz185_0 : wc.cell? ⟨gb173, 0, none⟩ = some (.int .i64 t169) := (blk_cell BK173.out 0).trans rfl
          have hcz185_1 : wc.cell? ⟨gb173, 1, none⟩ = some (.int .i64 t170) := (blk_cell BK173.out 1).trans rfl
          have hcz185_2 : wc.cell? ⟨gb173, 2, none⟩ = some (.int .i64 t171) := (blk_cell BK173.out 2).trans rfl
          have hfz185_0 := blk_frozen BK173.out 0
          have hfz185_1 := blk_frozen BK173.out 1
          have hfz185_2 := blk_frozen BK173.out 2
          go_wp2_with (first | ((with_reducible refine gate_callee (f := 26) rfl ?_); refine goesL_ (some 172) rfl rfl Try.func26 (by kernel_rfl) rfl #[.agg #[.int .i64 t169, .int .i64 t170, .int .i64 t171], .int .i64 t179] rfl (by (try simp only [List.map_toArray, List.map_cons, List.map_nil]); first | done | rfl | (simp only [List.length_drop, List.length_take]; rfl)) ?_; (with_reducible refine (layout_Plan_Mark.calls t169 t170 t171 t179 t200 _ A178.out).mono ?_); rintro e w186 ⟨rfl, hb⟩; refine ⟨_, rfl, ?_⟩; have n0_ := Aside0.mk (blk_below (g := gb168) (o := .cells #[.int .i64 a0_0, .int .i64 a0_1, .int .i64 a0_2, .int .i64 a0_3, .int .i64 a0_4] 57 (0, 0)) (pk BK168.out) hb); have n1_ := Aside0.mk (blk_below (g := gb173) (o := .cells #[.int .i64 t169, .int .i64 t170, .int .i64 t171] 23 (0, 0)) (pk BK173.out) hb); have n2_ := Aside0.mk (blk_below (g := gb184) (o := .cells #[.int .i64 t178, .int .i64 t179, .int .i64 t180] 52 (0, 0)) (pk BK184.out) hb); have n3_ := Aside0.mk (blk_below (g := gb185) (o := .cells #[.int .i64 t181, .int .i64 t182, .int .i64 t183] 52 (0, 0)) (pk BK185.out) hb); have n4_ := Aside0.mk (below_step (pb HB.out) hb); clear BK168; clear BK173; clear BK184; clear BK185; clear HB; have BK168 := n0_; have BK173 := n1_; have BK184 := n2_; have BK185 := n3_; have HB := n4_; clear n0_ n1_ n2_ n3_ n4_; (try clear hb); (try clear hb2); (try clear hk); (try clear hi)))
          go_ret
          exact ⟨by first | rfl | (simp [errW_none, errW_some] <;> rfl) | (simp [*, errW_none, errW_some] <;> rfl), by repeat (first | (with_reducible first | exact HB.out | apply below_alloc | apply pw_below_drewN | apply below_drew1 | refine below_set ?_ GE168.out | refine below_set ?_ GE173.out | refine below_set ?_ GE184.out | refine below_set ?_ GE185.out) | exact HB.out)⟩
        rw [if_neg c177] at H
        have c177b0 : (t178 == 7) = false := beq_eq_false_iff_ne.mpr c177
        have c177b1 : (t178 != 7) = true := bne_iff_ne.mpr c177
        by_cases c187 : t178 = 8
        rotate_left
        · rw [if_neg c187] at H
          have c187b0 : (t178 == 8) = false := beq_eq_false_iff_ne.mpr c187
          have c187b1 : (t178 != 8) = true := bne_iff_ne.mpr c187
          exact absurd (H.trans (congrArg some HTRUE_.out)) (by simp)
        rw [if_pos c187] at H
        have c187b0 : (t178 == 8) = true := beq_iff_eq.mpr c187
        have c187b1 : (t178 != 8) = false := bne_eq_false_iff_eq.mpr c187
        clear c187
        replace H := Option.bind_eq_some_iff.mp H
        obtain ⟨t201, A1880, H⟩ := H
        replace H : (some (t201 == (wrap64 (Int.tmod (IntKind.u64.wrap (a0_3)) (IntKind.u64.wrap (t176)))))) = some r := H
        have A188 := Aside0.mk A1880
        clear A1880
        obtain rfl := Option.some.inj H
        have hnb189 := NB184_168.out
        have hnc189 := NB168_184.out
        have hnb190 := NB184_173.out
        have hnc190 := NB173_184.out
        have hnb191 := NB184_185.out
        have hnc191 := NB185_184.out
        have hcz192_0 : wc.cell? ⟨gb184, 0, none⟩ = some (.int .i64 t178) := (blk_cell BK184.out 0).trans rfl
        have hcz192_1 : wc.cell? ⟨gb184, 1, none⟩ = some (.int .i64 t179) := (blk_cell BK184.out 1).trans rfl
        have hcz192_2 : wc.cell? ⟨gb184, 2, none⟩ = some (.int .i64 t180) := (blk_cell BK184.out 2).trans rfl
        have hfz192_0 := blk_frozen BK184.out 0
        have hfz192_1 := blk_frozen BK184.out 1
        have hfz192_2 := blk_frozen BK184.out 2
        have hnb193 := NB173_168.out
        have hnc193 := NB168_173.out
        have hnb194 := NB173_185.out
        have hnc194 := NB185_173.out
        have hcz195_0 : wc.cell? ⟨gb173, 0, none⟩ = some (.int .i64 t169) := (blk_cell BK173.out 0).trans rfl
        have hcz195_1 : wc.cell? ⟨gb173, 1, none⟩ = some (.int .i64 t170) := (blk_cell BK173.out 1).trans rfl
        have hcz195_2 : wc.cell? ⟨gb173, 2, none⟩ = some (.int .i64 t171) := (blk_cell BK173.out 2).trans rfl
        have hfz195_0 := blk_frozen BK173.out 0
        have hfz195_1 := blk_frozen BK173.out 1
        have hfz195_2 := blk_frozen BK173.out 2
        go_wp2_with (first | ((with_reducible refine gate_callee (f := 27) rfl ?_); refine goesL_ (some 180) rfl rfl Try.func27 (by kernel_rfl) rfl #[.agg #[.int .i64 t169, .int .i64 t170, .int .i64 t171], .int .i64 t179, .int .i64 t180] rfl (by (try simp only [List.map_toArray, List.map_cons, List.map_nil]); first | done | rfl | (simp only [List.length_drop, List.length_take]; rfl)) ?_; (with_reducible refine (layout_Plan_Addr.calls t169 t170 t171 t179 t180 t201 _ A188.out).mono ?_); rintro e w196 ⟨rfl, hb⟩; refine ⟨_, rfl, ?_⟩; have n0_ := Aside0.mk (blk_below (g := gb168) (o := .cells #[.int .i64 a0_0, .int .i64 a0_1, .int .i64 a0_2, .int .i64 a0_3, .int .i64 a0_4] 57 (0, 0)) (pk BK168.out) hb); have n1_ := Aside0.mk (blk_below (g := gb173) (o := .cells #[.int .i64 t169, .int .i64 t170, .int .i64 t171] 23 (0, 0)) (pk BK173.out) hb); have n2_ := Aside0.mk (blk_below (g := gb184) (o := .cells #[.int .i64 t178, .int .i64 t179, .int .i64 t180] 52 (0, 0)) (pk BK184.out) hb); have n3_ := Aside0.mk (blk_below (g := gb185) (o := .cells #[.int .i64 t181, .int .i64 t182, .int .i64 t183] 52 (0, 0)) (pk BK185.out) hb); have n4_ := Aside0.mk (below_step (pb HB.out) hb); clear BK168; clear BK173; clear BK184; clear BK185; clear HB; have BK168 := n0_; have BK173 := n1_; have BK184 := n2_; have BK185 := n3_; have HB := n4_; clear n0_ n1_ n2_ n3_ n4_; (try clear hb); (try clear hb2); (try clear hk); (try clear hi)))
        go_ret
        exact ⟨by first | rfl | (simp [errW_none, errW_some] <;> rfl) | (simp [*, errW_none, errW_some] <;> rfl), by repeat (first | (with_reducible first | exact HB.out | apply below_alloc | apply pw_below_drewN | apply below_drew1 | refine below_set ?_ GE168.out | refine below_set ?_ GE173.out | refine below_set ?_ GE184.out | refine below_set ?_ GE185.out) | exact HB.out)⟩
      rw [if_pos c97] at H
      have c97b0 : (t178 == 3) = true := beq_iff_eq.mpr c97
      have c97b1 : (t178 != 3) = false := bne_eq_false_iff_eq.mpr c97
      clear c97
      replace H := Option.bind_eq_some_iff.mp H
      obtain ⟨t188, A980, H⟩ := H
      replace H : ((layout_Plan_Ack.f t169 t170 t171 t179).bind fun t189 => ((layout_Plan_Result.f t169 t170 t171 t179).bind fun t190 => ((layout_Plan_Head.f t169 t170 t171 t179).bind fun t191 => ((layout_Plan_Tail.f t169 t170 t171 t179).bind fun t192 => ((some (([t188, t189, t190, t191, t192] : List Int) : List Int)).bind fun y193 => (if t180 ≥ 0 then (if t180 < 5 then (if 0 ≤ t180 then (if t180 < (y193.length : Int) then (some ((rd y193 t180) == (wrap64 (Int.tmod (IntKind.u64.wrap (a0_3)) (IntKind.u64.wrap (t176)))))) else (none)) else (none)) else (some ((-1) == (wrap64 (Int.tmod (IntKind.u64.wrap (a0_3)) (IntKind.u64.wrap (t176))))))) else (some ((-1) == (wrap64 (Int.tmod (IntKind.u64.wrap (a0_3)) (IntKind.u64.wrap (t176)))))))))))) = some r := H
      have A98 := Aside0.mk A980
      clear A980
      replace H := Option.bind_eq_some_iff.mp H
      obtain ⟨t189, A990, H⟩ := H
      replace H : ((layout_Plan_Result.f t169 t170 t171 t179).bind fun t190 => ((layout_Plan_Head.f t169 t170 t171 t179).bind fun t191 => ((layout_Plan_Tail.f t169 t170 t171 t179).bind fun t192 => ((some (([t188, t189, t190, t191, t192] : List Int) : List Int)).bind fun y193 => (if t180 ≥ 0 then (if t180 < 5 then (if 0 ≤ t180 then (if t180 < (y193.length : Int) then (some ((rd y193 t180) == (wrap64 (Int.tmod (IntKind.u64.wrap (a0_3)) (IntKind.u64.wrap (t176)))))) else (none)) else (none)) else (some ((-1) == (wrap64 (Int.tmod (IntKind.u64.wrap (a0_3)) (IntKind.u64.wrap (t176))))))) else (some ((-1) == (wrap64 (Int.tmod (IntKind.u64.wrap (a0_3)) (IntKind.u64.wrap (t176))))))))))) = some r := H
      have A99 := Aside0.mk A990
      clear A990
      replace H := Option.bind_eq_some_iff.mp H
      obtain ⟨t190, A1000, H⟩ := H
      replace H : ((layout_Plan_Head.f t169 t170 t171 t179).bind fun t191 => ((layout_Plan_Tail.f t169 t170 t171 t179).bind fun t192 => ((some (([t188, t189, t190, t191, t192] : List Int) : List Int)).bind fun y193 => (if t180 ≥ 0 then (if t180 < 5 then (if 0 ≤ t180 then (if t180 < (y193.length : Int) then (some ((rd y193 t180) == (wrap64 (Int.tmod (IntKind.u64.wrap (a0_3)) (IntKind.u64.wrap (t176)))))) else (none)) else (none)) else (some ((-1) == (wrap64 (Int.tmod (IntKind.u64.wrap (a0_3)) (IntKind.u64.wrap (t176))))))) else (some ((-1) == (wrap64 (Int.tmod (IntKind.u64.wrap (a0_3)) (IntKind.u64.wrap (t176)))))))))) = some r := H
      have A100 := Aside0.mk A1000
      clear A1000
      replace H := Option.bind_eq_some_iff.mp H
      obtain ⟨t191, A1010, H⟩ := H
      replace H : ((layout_Plan_Tail.f t169 t170 t171 t179).bind fun t192 => ((some (([t188, t189, t190, t191, t192] : List Int) : List Int)).bind fun y193 => (if t180 ≥ 0 then (if t180 < 5 then (if 0 ≤ t180 then (if t180 < (y193.length : Int) then (some ((rd y193 t180) == (wrap64 (Int.tmod (IntKind.u64.wrap (a0_3)) (IntKind.u64.wrap (t176)))))) else (none)) else (none)) else (some ((-1) == (wrap64 (Int.tmod (IntKind.u64.wrap (a0_3)) (IntKind.u64.wrap (t176))))))) else (some ((-1) == (wrap64 (Int.tmod (IntKind.u64.wrap (a0_3)) (IntKind.u64.wrap (t176))))))))) = some r := H
      have A101 := Aside0.mk A1010
      clear A1010
      replace H := Option.bind_eq_some_iff.mp H
      obtain ⟨t192, A1020, H⟩ := H
      replace H : ((some (([t188, t189, t190, t191, t192] : List Int) : List Int)).bind fun y193 => (if t180 ≥ 0 then (if t180 < 5 then (if 0 ≤ t180 then (if t180 < (y193.length : Int) then (some ((rd y193 t180) == (wrap64 (Int.tmod (IntKind.u64.wrap (a0_3)) (IntKind.u64.wrap (t176)))))) else (none)) else (none)) else (some ((-1) == (wrap64 (Int.tmod (IntKind.u64.wrap (a0_3)) (IntKind.u64.wrap (t176))))))) else (some ((-1) == (wrap64 (Int.tmod (IntKind.u64.wrap (a0_3)) (IntKind.u64.wrap (t176)))))))) = some r := H
      have A102 := Aside0.mk A1020
      clear A1020
      obtain ⟨y193, hy193⟩ : ∃ y_ : List Int, y_ = (([t188, t189, t190, t191, t192] : List Int)) := ⟨_, rfl⟩
      replace H : (if t180 ≥ 0 then (if t180 < 5 then (if 0 ≤ t180 then (if t180 < (y193.length : Int) then (some ((rd y193 t180) == (wrap64 (Int.tmod (IntKind.u64.wrap (a0_3)) (IntKind.u64.wrap (t176)))))) else (none)) else (none)) else (some ((-1) == (wrap64 (Int.tmod (IntKind.u64.wrap (a0_3)) (IntKind.u64.wrap (t176))))))) else (some ((-1) == (wrap64 (Int.tmod (IntKind.u64.wrap (a0_3)) (IntKind.u64.wrap (t176))))))) = some r := by first | (rw [hy193]; with_reducible exact H) | (have H2_ := (Option.bind_some _ _).symm.trans H; rw [hy193]; with_reducible exact H2_) | (have H2_ := (Option.bind_some _ _).symm.trans H; with_reducible exact H2_) | with_reducible exact H | (rw [hy193]; exact H) | exact H
      have Ny193 := Aside0.mk hy193
      clear hy193
      by_cases c103 : t180 ≥ 0
      rotate_left
      · rw [if_neg c103] at H
        have c103b0 : decide (0 ≤ t180) = false := decide_eq_false c103
        clear c103
        obtain rfl := Option.some.inj H
        have hnb134 := NB184_168.out
        have hnc134 := NB168_184.out
        have hnb135 := NB184_173.out
        have hnc135 := NB173_184.out
        have hnb136 := NB184_185.out
        have hnc136 := NB185_184.out
        have hcz137_0 : wc.cell? ⟨gb184, 0, none⟩ = some (.int .i64 t178) := (blk_cell BK184.out 0).trans rfl
        have hcz137_1 : wc.cell? ⟨gb184, 1, none⟩ = some (.int .i64 t179) := (blk_cell BK184.out 1).trans rfl
        have hcz137_2 : wc.cell? ⟨gb184, 2, none⟩ = some (.int .i64 t180) := (blk_cell BK184.out 2).trans rfl
        have hfz137_0 := blk_frozen BK184.out 0
        have hfz137_1 := blk_frozen BK184.out 1
        have hfz137_2 := blk_frozen BK184.out 2
        try go_wp2
        have n0_ := Aside0.mk (blk_drew BK168.out)
        have n1_ := Aside0.mk (blk_drew BK173.out)
        have n2_ := Aside0.mk (blk_drew BK184.out)
        have n3_ := Aside0.mk (blk_drew BK185.out)
        have n4_ := Aside0.mk (below_drew1 HB.out)
        clear BK168
        clear BK173
        clear BK184
        clear BK185
        clear HB
        have BK168 := n0_
        have BK173 := n1_
        have BK184 := n2_
        have BK185 := n3_
        have HB := n4_
        clear n0_ n1_ n2_ n3_ n4_
        refine start_ (n := 22) (S := fun w' => w'.cell? ⟨gb173, 0, none⟩ = some (.int .i64 t169) ∧ w'.cell? ⟨gb173, 1, none⟩ = some (.int .i64 t170) ∧ w'.cell? ⟨gb173, 2, none⟩ = some (.int .i64 t171) ∧ w'.cell? ⟨gb184, 0, none⟩ = some (.int .i64 t178) ∧ w'.cell? ⟨gb184, 1, none⟩ = some (.int .i64 t179) ∧ w'.cell? ⟨gb184, 2, none⟩ = some (.int .i64 t180)) (ds := []) #[false, false, false, false, false, false, false, false, false, false, false, false, false, false, false, false, false, false, false, false, false, false] (by kernel_rfl) rfl rfl ⟨(blk_cell BK173.out 0).trans rfl, (blk_cell BK173.out 1).trans rfl, (blk_cell BK173.out 2).trans rfl, (blk_cell BK184.out 0).trans rfl, (blk_cell BK184.out 1).trans rfl, (blk_cell BK184.out 2).trans rfl⟩ (fun hHeld => ?_); refine with_tabW windrowlaw06_LayoutApart.tab19 windrowlaw06_LayoutApart.bits19 (fun HT_ HW_ => ?_)
        generalize wc.drew = w138 at BK168 BK173 BK184 BK185 HB hHeld ⊢
        refine pure_ (i := 1) (N := some 113) (v := ?_) (a' := ?_) #[false, true, false, false, false, false, false, false, false, false, false, false, false, false, false, false, false, false, false, false, false, false] rfl rfl (any_of HT_.out (by kernel_rfl)) (fun _ _ _ h => h) (Or.inl ⟨by rfl, ?_⟩) ?_ ?_
        rotate_left
        · intro w'
          go_simp
          with_reducible rfl
        rotate_left
        · simp only [Act.put, List.setIfInBounds_toArray, List.set_cons_zero, List.set_cons_succ, i64_w, i32_w]
          rfl
        refine pure_ (i := 5) (N := some 117) (v := ?_) (a' := ?_) #[false, true, false, false, false, true, false, false, false, false, false, false, false, false, false, false, false, false, false, false, false, false] rfl rfl (any_of HT_.out (by kernel_rfl)) (fun _ _ _ h => h) (Or.inl ⟨by rfl, ?_⟩) ?_ ?_
        rotate_left
        · intro w'
          go_simp
          with_reducible rfl
        rotate_left
        · simp only [Act.put, List.setIfInBounds_toArray, List.set_cons_zero, List.set_cons_succ, i64_w, i32_w]
          rfl
        refine pure_ (i := 9) (N := some 121) (v := ?_) (a' := ?_) #[false, true, false, false, false, true, false, false, false, true, false, false, false, false, false, false, false, false, false, false, false, false] rfl rfl (any_of HT_.out (by kernel_rfl)) (fun _ _ _ h => h) (Or.inl ⟨by rfl, ?_⟩) ?_ ?_
        rotate_left
        · intro w'
          go_simp
          with_reducible rfl
        rotate_left
        · simp only [Act.put, List.setIfInBounds_toArray, List.set_cons_zero, List.set_cons_succ, i64_w, i32_w]
          rfl
        refine pure_ (i := 13) (N := some 125) (v := ?_) (a' := ?_) #[false, true, false, false, false, true, false, false, false, true, false, false, false, true, false, false, false, false, false, false, false, false] rfl rfl (any_of HT_.out (by kernel_rfl)) (fun _ _ _ h => h) (Or.inl ⟨by rfl, ?_⟩) ?_ ?_
        rotate_left
        · intro w'
          go_simp
          with_reducible rfl
        rotate_left
        · simp only [Act.put, List.setIfInBounds_toArray, List.set_cons_zero, List.set_cons_succ, i64_w, i32_w]
          rfl
        refine pure_ (i := 17) (N := some 129) (v := ?_) (a' := ?_) #[false, true, false, false, false, true, false, false, false, true, false, false, false, true, false, false, false, true, false, false, false, false] rfl rfl (any_of HT_.out (by kernel_rfl)) (fun _ _ _ h => h) (Or.inl ⟨by rfl, ?_⟩) ?_ ?_
        rotate_left
        · intro w'
          go_simp
          with_reducible rfl
        rotate_left
        · simp only [Act.put, List.setIfInBounds_toArray, List.set_cons_zero, List.set_cons_succ, i64_w, i32_w]
          rfl
        refine take_ (i := 0) (N := some 112) (v := ?_) (a' := ?_) #[true, true, false, false, false, true, false, false, false, true, false, false, false, true, false, false, false, true, false, false, false, false] rfl rfl (take_ofW HT_.out HW_.out (by kernel_rfl)) (fun _ _ _ h => h) (Or.inl ⟨by rfl, ?_⟩) hHeld ?_ ?_
        rotate_left
        · rintro w' ⟨s0, s1, s2, s3, s4, s5⟩
          go_simp
          with_reducible rfl
        rotate_left
        · simp only [Act.put, List.setIfInBounds_toArray, List.set_cons_zero, List.set_cons_succ, i64_w, i32_w]
          rfl
        refine take_ (i := 2) (N := some 114) (v := ?_) (a' := ?_) #[true, true, true, false, false, true, false, false, false, true, false, false, false, true, false, false, false, true, false, false, false, false] rfl rfl (take_ofW HT_.out HW_.out (by kernel_rfl)) (fun _ _ _ h => h) (Or.inl ⟨by rfl, ?_⟩) hHeld ?_ ?_
        rotate_left
        · rintro w' ⟨s0, s1, s2, s3, s4, s5⟩
          go_simp
          with_reducible rfl
        rotate_left
        · simp only [Act.put, List.setIfInBounds_toArray, List.set_cons_zero, List.set_cons_succ, i64_w, i32_w]
          rfl
        refine take_ (i := 4) (N := some 116) (v := ?_) (a' := ?_) #[true, true, true, false, true, true, false, false, false, true, false, false, false, true, false, false, false, true, false, false, false, false] rfl rfl (take_ofW HT_.out HW_.out (by kernel_rfl)) (fun _ _ _ h => h) (Or.inl ⟨by rfl, ?_⟩) hHeld ?_ ?_
        rotate_left
        · rintro w' ⟨s0, s1, s2, s3, s4, s5⟩
          go_simp
          with_reducible rfl
        rotate_left
        · simp only [Act.put, List.setIfInBounds_toArray, List.set_cons_zero, List.set_cons_succ, i64_w, i32_w]
          rfl
        refine take_ (i := 6) (N := some 118) (v := ?_) (a' := ?_) #[true, true, true, false, true, true, true, false, false, true, false, false, false, true, false, false, false, true, false, false, false, false] rfl rfl (take_ofW HT_.out HW_.out (by kernel_rfl)) (fun _ _ _ h => h) (Or.inl ⟨by rfl, ?_⟩) hHeld ?_ ?_
        rotate_left
        · rintro w' ⟨s0, s1, s2, s3, s4, s5⟩
          go_simp
          with_reducible rfl
        rotate_left
        · simp only [Act.put, List.setIfInBounds_toArray, List.set_cons_zero, List.set_cons_succ, i64_w, i32_w]
          rfl
        refine take_ (i := 8) (N := some 120) (v := ?_) (a' := ?_) #[true, true, true, false, true, true, true, false, true, true, false, false, false, true, false, false, false, true, false, false, false, false] rfl rfl (take_ofW HT_.out HW_.out (by kernel_rfl)) (fun _ _ _ h => h) (Or.inl ⟨by rfl, ?_⟩) hHeld ?_ ?_
        rotate_left
        · rintro w' ⟨s0, s1, s2, s3, s4, s5⟩
          go_simp
          with_reducible rfl
        rotate_left
        · simp only [Act.put, List.setIfInBounds_toArray, List.set_cons_zero, List.set_cons_succ, i64_w, i32_w]
          rfl
        refine take_ (i := 10) (N := some 122) (v := ?_) (a' := ?_) #[true, true, true, false, true, true, true, false, true, true, true, false, false, true, false, false, false, true, false, false, false, false] rfl rfl (take_ofW HT_.out HW_.out (by kernel_rfl)) (fun _ _ _ h => h) (Or.inl ⟨by rfl, ?_⟩) hHeld ?_ ?_
        rotate_left
        · rintro w' ⟨s0, s1, s2, s3, s4, s5⟩
          go_simp
          with_reducible rfl
        rotate_left
        · simp only [Act.put, List.setIfInBounds_toArray, List.set_cons_zero, List.set_cons_succ, i64_w, i32_w]
          rfl
        refine take_ (i := 12) (N := some 124) (v := ?_) (a' := ?_) #[true, true, true, false, true, true, true, false, true, true, true, false, true, true, false, false, false, true, false, false, false, false] rfl rfl (take_ofW HT_.out HW_.out (by kernel_rfl)) (fun _ _ _ h => h) (Or.inl ⟨by rfl, ?_⟩) hHeld ?_ ?_
        rotate_left
        · rintro w' ⟨s0, s1, s2, s3, s4, s5⟩
          go_simp
          with_reducible rfl
        rotate_left
        · simp only [Act.put, List.setIfInBounds_toArray, List.set_cons_zero, List.set_cons_succ, i64_w, i32_w]
          rfl
        refine take_ (i := 14) (N := some 126) (v := ?_) (a' := ?_) #[true, true, true, false, true, true, true, false, true, true, true, false, true, true, true, false, false, true, false, false, false, false] rfl rfl (take_ofW HT_.out HW_.out (by kernel_rfl)) (fun _ _ _ h => h) (Or.inl ⟨by rfl, ?_⟩) hHeld ?_ ?_
        rotate_left
        · rintro w' ⟨s0, s1, s2, s3, s4, s5⟩
          go_simp
          with_reducible rfl
        rotate_left
        · simp only [Act.put, List.setIfInBounds_toArray, List.set_cons_zero, List.set_cons_succ, i64_w, i32_w]
          rfl
        refine take_ (i := 16) (N := some 128) (v := ?_) (a' := ?_) #[true, true, true, false, true, true, true, false, true, true, true, false, true, true, true, false, true, true, false, false, false, false] rfl rfl (take_ofW HT_.out HW_.out (by kernel_rfl)) (fun _ _ _ h => h) (Or.inl ⟨by rfl, ?_⟩) hHeld ?_ ?_
        rotate_left
        · rintro w' ⟨s0, s1, s2, s3, s4, s5⟩
          go_simp
          with_reducible rfl
        rotate_left
        · simp only [Act.put, List.setIfInBounds_toArray, List.set_cons_zero, List.set_cons_succ, i64_w, i32_w]
          rfl
        refine take_ (i := 18) (N := some 130) (v := ?_) (a' := ?_) #[true, true, true, false, true, true, true, false, true, true, true, false, true, true, true, false, true, true, true, false, false, false] rfl rfl (take_ofW HT_.out HW_.out (by kernel_rfl)) (fun _ _ _ h => h) (Or.inl ⟨by rfl, ?_⟩) hHeld ?_ ?_
        rotate_left
        · rintro w' ⟨s0, s1, s2, s3, s4, s5⟩
          go_simp
          with_reducible rfl
        rotate_left
        · simp only [Act.put, List.setIfInBounds_toArray, List.set_cons_zero, List.set_cons_succ, i64_w, i32_w]
          rfl
        refine one_ (i := 3) (N := some 115) #[true, true, true, true, true, true, true, false, true, true, true, false, true, true, true, false, true, true, true, false, false, false] rfl rfl (one_of HT_.out (by kernel_rfl)) (by decide) (fun K hK => ?_)
        refine goes_ Try.func18 (by kernel_rfl) rfl #[.agg #[.int .i64 t169, .int .i64 t170, .int .i64 t171], .int .i64 t179] (by rfl) rfl rfl (by (try simp only [List.map_toArray, List.map_cons, List.map_nil]); first | done | rfl | (simp only [List.length_drop, List.length_take]; rfl)) ?_
        with_reducible refine (layout_Plan_Status.calls t169 t170 t171 t179 t188 _ A98.out).mono ?_
        rintro e w139 ⟨rfl, hb⟩
        refine ⟨_, rfl, ?_⟩
        have n0_ := Aside0.mk (blk_below (g := gb168) (o := .cells #[.int .i64 a0_0, .int .i64 a0_1, .int .i64 a0_2, .int .i64 a0_3, .int .i64 a0_4] 57 (0, 0)) (pk BK168.out) hb)
        have n1_ := Aside0.mk (blk_below (g := gb173) (o := .cells #[.int .i64 t169, .int .i64 t170, .int .i64 t171] 23 (0, 0)) (pk BK173.out) hb)
        have n2_ := Aside0.mk (blk_below (g := gb184) (o := .cells #[.int .i64 t178, .int .i64 t179, .int .i64 t180] 52 (0, 0)) (pk BK184.out) hb)
        have n3_ := Aside0.mk (blk_below (g := gb185) (o := .cells #[.int .i64 t181, .int .i64 t182, .int .i64 t183] 52 (0, 0)) (pk BK185.out) hb)
        have n4_ := Aside0.mk (below_step (pb HB.out) hb)
        clear BK168
        clear BK173
        clear BK184
        clear BK185
        clear HB
        have BK168 := n0_
        have BK173 := n1_
        have BK184 := n2_
        have BK185 := n3_
        have HB := n4_
        clear n0_ n1_ n2_ n3_ n4_
        (try clear hb)
        (try clear hb2)
        (try clear hk)
        (try clear hi)
        refine hK.out _ _ ⟨(blk_cell BK173.out 0).trans rfl, (blk_cell BK173.out 1).trans rfl, (blk_cell BK173.out 2).trans rfl, (blk_cell BK184.out 0).trans rfl, (blk_cell BK184.out 1).trans rfl, (blk_cell BK184.out 2).trans rfl⟩ (fun hHeld => ?_)
        clear hK K
        refine norm_ (a' := ?_) ?_ ?_
        rotate_left
        · show Act.put _ (some 115) _ = _
          simp only [Act.put, List.setIfInBounds_toArray, List.set_cons_zero, List.set_cons_succ, i64_w, i32_w]
          rfl
        refine one_ (i := 7) (N := some 119) #[true, true, true, true, true, true, true, true, true, true, true, false, true, true, true, false, true, true, true, false, false, false] rfl rfl (one_of HT_.out (by kernel_rfl)) (by decide) (fun K hK => ?_)
        refine goes_ Try.func19 (by kernel_rfl) rfl #[.agg #[.int .i64 t169, .int .i64 t170, .int .i64 t171], .int .i64 t179] (by rfl) rfl rfl (by (try simp only [List.map_toArray, List.map_cons, List.map_nil]); first | done | rfl | (simp only [List.length_drop, List.length_take]; rfl)) ?_
        with_reducible refine (layout_Plan_Ack.calls t169 t170 t171 t179 t189 _ A99.out).mono ?_
        rintro e w140 ⟨rfl, hb⟩
        refine ⟨_, rfl, ?_⟩
        have n0_ := Aside0.mk (blk_below (g := gb168) (o := .cells #[.int .i64 a0_0, .int .i64 a0_1, .int .i64 a0_2, .int .i64 a0_3, .int .i64 a0_4] 57 (0, 0)) (pk BK168.out) hb)
        have n1_ := Aside0.mk (blk_below (g := gb173) (o := .cells #[.int .i64 t169, .int .i64 t170, .int .i64 t171] 23 (0, 0)) (pk BK173.out) hb)
        have n2_ := Aside0.mk (blk_below (g := gb184) (o := .cells #[.int .i64 t178, .int .i64 t179, .int .i64 t180] 52 (0, 0)) (pk BK184.out) hb)
        have n3_ := Aside0.mk (blk_below (g := gb185) (o := .cells #[.int .i64 t181, .int .i64 t182, .int .i64 t183] 52 (0, 0)) (pk BK185.out) hb)
        have n4_ := Aside0.mk (below_step (pb HB.out) hb)
        clear BK168
        clear BK173
        clear BK184
        clear BK185
        clear HB
        have BK168 := n0_
        have BK173 := n1_
        have BK184 := n2_
        have BK185 := n3_
        have HB := n4_
        clear n0_ n1_ n2_ n3_ n4_
        (try clear hb)
        (try clear hb2)
        (try clear hk)
        (try clear hi)
        refine hK.out _ _ ⟨(blk_cell BK173.out 0).trans rfl, (blk_cell BK173.out 1).trans rfl, (blk_cell BK173.out 2).trans rfl, (blk_cell BK184.out 0).trans rfl, (blk_cell BK184.out 1).trans rfl, (blk_cell BK184.out 2).trans rfl⟩ (fun hHeld => ?_)
        clear hK K
        refine norm_ (a' := ?_) ?_ ?_
        rotate_left
        · show Act.put _ (some 119) _ = _
          simp only [Act.put, List.setIfInBounds_toArray, List.set_cons_zero, List.set_cons_succ, i64_w, i32_w]
          rfl
        refine one_ (i := 11) (N := some 123) #[true, true, true, true, true, true, true, true, true, true, true, true, true, true, true, false, true, true, true, false, false, false] rfl rfl (one_of HT_.out (by kernel_rfl)) (by decide) (fun K hK => ?_)
        refine goes_ Try.func20 (by kernel_rfl) rfl #[.agg #[.int .i64 t169, .int .i64 t170, .int .i64 t171], .int .i64 t179] (by rfl) rfl rfl (by (try simp only [List.map_toArray, List.map_cons, List.map_nil]); first | done | rfl | (simp only [List.length_drop, List.length_take]; rfl)) ?_
        with_reducible refine (layout_Plan_Result.calls t169 t170 t171 t179 t190 _ A100.out).mono ?_
        rintro e w141 ⟨rfl, hb⟩
        refine ⟨_, rfl, ?_⟩
        have n0_ := Aside0.mk (blk_below (g := gb168) (o := .cells #[.int .i64 a0_0, .int .i64 a0_1, .int .i64 a0_2, .int .i64 a0_3, .int .i64 a0_4] 57 (0, 0)) (pk BK168.out) hb)
        have n1_ := Aside0.mk (blk_below (g := gb173) (o := .cells #[.int .i64 t169, .int .i64 t170, .int .i64 t171] 23 (0, 0)) (pk BK173.out) hb)
        have n2_ := Aside0.mk (blk_below (g := gb184) (o := .cells #[.int .i64 t178, .int .i64 t179, .int .i64 t180] 52 (0, 0)) (pk BK184.out) hb)
        have n3_ := Aside0.mk (blk_below (g := gb185) (o := .cells #[.int .i64 t181, .int .i64 t182, .int .i64 t183] 52 (0, 0)) (pk BK185.out) hb)
        have n4_ := Aside0.mk (below_step (pb HB.out) hb)
        clear BK168
        clear BK173
        clear BK184
        clear BK185
        clear HB
        have BK168 := n0_
        have BK173 := n1_
        have BK184 := n2_
        have BK185 := n3_
        have HB := n4_
        clear n0_ n1_ n2_ n3_ n4_
        (try clear hb)
        (try clear hb2)
        (try clear hk)
        (try clear hi)
        refine hK.out _ _ ⟨(blk_cell BK173.out 0).trans rfl, (blk_cell BK173.out 1).trans rfl, (blk_cell BK173.out 2).trans rfl, (blk_cell BK184.out 0).trans rfl, (blk_cell BK184.out 1).trans rfl, (blk_cell BK184.out 2).trans rfl⟩ (fun hHeld => ?_)
        clear hK K
        refine norm_ (a' := ?_) ?_ ?_
        rotate_left
        · show Act.put _ (some 123) _ = _
          simp only [Act.put, List.setIfInBounds_toArray, List.set_cons_zero, List.set_cons_succ, i64_w, i32_w]
          rfl
        refine one_ (i := 15) (N := some 127) #[true, true, true, true, true, true, true, true, true, true, true, true, true, true, true, true, true, true, true, false, false, false] rfl rfl (one_of HT_.out (by kernel_rfl)) (by decide) (fun K hK => ?_)
        refine goes_ Try.func21 (by kernel_rfl) rfl #[.agg #[.int .i64 t169, .int .i64 t170, .int .i64 t171], .int .i64 t179] (by rfl) rfl rfl (by (try simp only [List.map_toArray, List.map_cons, List.map_nil]); first | done | rfl | (simp only [List.length_drop, List.length_take]; rfl)) ?_
        with_reducible refine (layout_Plan_Head.calls t169 t170 t171 t179 t191 _ A101.out).mono ?_
        rintro e w142 ⟨rfl, hb⟩
        refine ⟨_, rfl, ?_⟩
        have n0_ := Aside0.mk (blk_below (g := gb168) (o := .cells #[.int .i64 a0_0, .int .i64 a0_1, .int .i64 a0_2, .int .i64 a0_3, .int .i64 a0_4] 57 (0, 0)) (pk BK168.out) hb)
        have n1_ := Aside0.mk (blk_below (g := gb173) (o := .cells #[.int .i64 t169, .int .i64 t170, .int .i64 t171] 23 (0, 0)) (pk BK173.out) hb)
        have n2_ := Aside0.mk (blk_below (g := gb184) (o := .cells #[.int .i64 t178, .int .i64 t179, .int .i64 t180] 52 (0, 0)) (pk BK184.out) hb)
        have n3_ := Aside0.mk (blk_below (g := gb185) (o := .cells #[.int .i64 t181, .int .i64 t182, .int .i64 t183] 52 (0, 0)) (pk BK185.out) hb)
        have n4_ := Aside0.mk (below_step (pb HB.out) hb)
        clear BK168
        clear BK173
        clear BK184
        clear BK185
        clear HB
        have BK168 := n0_
        have BK173 := n1_
        have BK184 := n2_
        have BK185 := n3_
        have HB := n4_
        clear n0_ n1_ n2_ n3_ n4_
        (try clear hb)
        (try clear hb2)
        (try clear hk)
        (try clear hi)
        refine hK.out _ _ ⟨(blk_cell BK173.out 0).trans rfl, (blk_cell BK173.out 1).trans rfl, (blk_cell BK173.out 2).trans rfl, (blk_cell BK184.out 0).trans rfl, (blk_cell BK184.out 1).trans rfl, (blk_cell BK184.out 2).trans rfl⟩ (fun hHeld => ?_)
        clear hK K
        refine norm_ (a' := ?_) ?_ ?_
        rotate_left
        · show Act.put _ (some 127) _ = _
          simp only [Act.put, List.setIfInBounds_toArray, List.set_cons_zero, List.set_cons_succ, i64_w, i32_w]
          rfl
        refine one_ (i := 19) (N := some 131) #[true, true, true, true, true, true, true, true, true, true, true, true, true, true, true, true, true, true, true, true, false, false] rfl rfl (one_of HT_.out (by kernel_rfl)) (by decide) (fun K hK => ?_)
        refine goes_ Try.func22 (by kernel_rfl) rfl #[.agg #[.int .i64 t169, .int .i64 t170, .int .i64 t171], .int .i64 t179] (by rfl) rfl rfl (by (try simp only [List.map_toArray, List.map_cons, List.map_nil]); first | done | rfl | (simp only [List.length_drop, List.length_take]; rfl)) ?_
        with_reducible refine (layout_Plan_Tail.calls t169 t170 t171 t179 t192 _ A102.out).mono ?_
        rintro e w143 ⟨rfl, hb⟩
        refine ⟨_, rfl, ?_⟩
        have n0_ := Aside0.mk (blk_below (g := gb168) (o := .cells #[.int .i64 a0_0, .int .i64 a0_1, .int .i64 a0_2, .int .i64 a0_3, .int .i64 a0_4] 57 (0, 0)) (pk BK168.out) hb)
        have n1_ := Aside0.mk (blk_below (g := gb173) (o := .cells #[.int .i64 t169, .int .i64 t170, .int .i64 t171] 23 (0, 0)) (pk BK173.out) hb)
        have n2_ := Aside0.mk (blk_below (g := gb184) (o := .cells #[.int .i64 t178, .int .i64 t179, .int .i64 t180] 52 (0, 0)) (pk BK184.out) hb)
        have n3_ := Aside0.mk (blk_below (g := gb185) (o := .cells #[.int .i64 t181, .int .i64 t182, .int .i64 t183] 52 (0, 0)) (pk BK185.out) hb)
        have n4_ := Aside0.mk (below_step (pb HB.out) hb)
        clear BK168
        clear BK173
        clear BK184
        clear BK185
        clear HB
        have BK168 := n0_
        have BK173 := n1_
        have BK184 := n2_
        have BK185 := n3_
        have HB := n4_
        clear n0_ n1_ n2_ n3_ n4_
        (try clear hb)
        (try clear hb2)
        (try clear hk)
        (try clear hi)
        refine hK.out _ _ ⟨(blk_cell BK173.out 0).trans rfl, (blk_cell BK173.out 1).trans rfl, (blk_cell BK173.out 2).trans rfl, (blk_cell BK184.out 0).trans rfl, (blk_cell BK184.out 1).trans rfl, (blk_cell BK184.out 2).trans rfl⟩ (fun hHeld => ?_)
        clear hK K
        refine norm_ (a' := ?_) ?_ ?_
        rotate_left
        · show Act.put _ (some 131) _ = _
          simp only [Act.put, List.setIfInBounds_toArray, List.set_cons_zero, List.set_cons_succ, i64_w, i32_w]
          rfl
        refine one_ (i := 20) (N := some 132) #[true, true, true, true, true, true, true, true, true, true, true, true, true, true, true, true, true, true, true, true, true, false] rfl rfl (one_of HT_.out (by kernel_rfl)) (by decide) (fun K hK => ?_)
        refine Kd.R_lit_step (Kd.int .i64) _ 3 ?hg (N := 132) ?hd (xs := ([t188, t189, t190, t191, t192] : List Int)) (inner := [.int .i64 t188, .int .i64 t189, .int .i64 t190, .int .i64 t191, .int .i64 t192]) (ok := fun _ => True) (okp := fun _ => True) ?hr ?hp (fun _ hk => hk) trivial (Below.refl _ _) (Nat.le_refl _) (by simp) ?_; (case hd => rfl); (case hg => rfl); (case hr => first | (go_simp; done) | (go_simp; rfl)); (case hp => exact (Reps.one (show Kd.M (Kd.int .i64) _ _ _ t188 [.int .i64 t188] from rfl) (Reps.one (show Kd.M (Kd.int .i64) _ _ _ t189 [.int .i64 t189] from rfl) (Reps.one (show Kd.M (Kd.int .i64) _ _ _ t190 [.int .i64 t190] from rfl) (Reps.one (show Kd.M (Kd.int .i64) _ _ _ t191 [.int .i64 t191] from rfl) (Reps.one (show Kd.M (Kd.int .i64) _ _ _ t192 [.int .i64 t192] from rfl) (Reps.none _ _)))))))
        intro v194 w144 ho145 hb hg_ hnew_
        clear hg_ hnew_
        (first | rw [← Ny193.out] at ho145 | (simp only [Int.reduceToNat] at ho145; rw [← Ny193.out] at ho145))
        have n0_ := Aside0.mk (Kd.R_lower ho145 (below_size (pb HB.out)))
        have n1_ := Aside0.mk (blk_below (g := gb168) (o := .cells #[.int .i64 a0_0, .int .i64 a0_1, .int .i64 a0_2, .int .i64 a0_3, .int .i64 a0_4] 57 (0, 0)) (pk BK168.out) hb)
        have n2_ := Aside0.mk (blk_below (g := gb173) (o := .cells #[.int .i64 t169, .int .i64 t170, .int .i64 t171] 23 (0, 0)) (pk BK173.out) hb)
        have n3_ := Aside0.mk (blk_below (g := gb184) (o := .cells #[.int .i64 t178, .int .i64 t179, .int .i64 t180] 52 (0, 0)) (pk BK184.out) hb)
        have n4_ := Aside0.mk (blk_below (g := gb185) (o := .cells #[.int .i64 t181, .int .i64 t182, .int .i64 t183] 52 (0, 0)) (pk BK185.out) hb)
        have n5_ := Aside0.mk (below_step (pb HB.out) hb)
        clear BK168
        clear BK173
        clear BK184
        clear BK185
        clear HB
        have HO195 := n0_
        have BK168 := n1_
        have BK173 := n2_
        have BK184 := n3_
        have BK185 := n4_
        have HB := n5_
        clear n0_ n1_ n2_ n3_ n4_ n5_
        clear hb ho145
        refine hK.out _ _ ⟨(blk_cell BK173.out 0).trans rfl, (blk_cell BK173.out 1).trans rfl, (blk_cell BK173.out 2).trans rfl, (blk_cell BK184.out 0).trans rfl, (blk_cell BK184.out 1).trans rfl, (blk_cell BK184.out 2).trans rfl⟩ (fun hHeld => ?_)
        clear hK K
        refine norm_ (a' := ?_) ?_ ?_
        rotate_left
        · show Act.put _ (some 132) _ = _
          simp only [Act.put, List.setIfInBounds_toArray, List.set_cons_zero, List.set_cons_succ, i64_w, i32_w]
          rfl
        refine pure_ (i := 21) (N := some 13) (v := ?_) (a' := ?_) #[true, true, true, true, true, true, true, true, true, true, true, true, true, true, true, true, true, true, true, true, true, true] rfl rfl (any_of HT_.out (by kernel_rfl)) (fun _ _ _ h => h) (Or.inl ⟨by rfl, ?_⟩) ?_ ?_
        rotate_left
        · intro w'
          go_simp
          with_reducible rfl
        rotate_left
        · simp only [Act.put, List.setIfInBounds_toArray, List.set_cons_zero, List.set_cons_succ, i64_w, i32_w]
          rfl
        refine done_ (done_of HT_.out (by kernel_rfl)) ?_
        have hcz146_0 : w144.cell? ⟨gb184, 0, none⟩ = some (.int .i64 t178) := (blk_cell BK184.out 0).trans rfl
        have hcz146_1 : w144.cell? ⟨gb184, 1, none⟩ = some (.int .i64 t179) := (blk_cell BK184.out 1).trans rfl
        have hcz146_2 : w144.cell? ⟨gb184, 2, none⟩ = some (.int .i64 t180) := (blk_cell BK184.out 2).trans rfl
        have hfz146_0 := blk_frozen BK184.out 0
        have hfz146_1 := blk_frozen BK184.out 1
        have hfz146_2 := blk_frozen BK184.out 2
        try go_wp2
        go_ret
        exact ⟨by first | rfl | (simp [errW_none, errW_some] <;> rfl) | (simp [*, errW_none, errW_some] <;> rfl), by repeat (first | (with_reducible first | exact HB.out | apply below_alloc | apply pw_below_drewN | apply below_drew1 | refine below_set ?_ GE168.out | refine below_set ?_ GE173.out | refine below_set ?_ GE184.out | refine below_set ?_ GE185.out) | exact HB.out)⟩
      rw [if_pos c103] at H
      have c103b0 : decide (0 ≤ t180) = true := decide_eq_true c103
      clear c103
      by_cases c104 : t180 < 5
      rotate_left
      · rw [if_neg c104] at H
        have c104b0 : decide (t180 < 5) = false := decide_eq_false c104
        clear c104
        obtain rfl := Option.some.inj H
        have hnb121 := NB184_168.out
        have hnc121 := NB168_184.out
        have hnb122 := NB184_173.out
        have hnc122 := NB173_184.out
        have hnb123 := NB184_185.out
        have hnc123 := NB185_184.out
        have hcz124_0 : wc.cell? ⟨gb184, 0, none⟩ = some (.int .i64 t178) := (blk_cell BK184.out 0).trans rfl
        have hcz124_1 : wc.cell? ⟨gb184, 1, none⟩ = some (.int .i64 t179) := (blk_cell BK184.out 1).trans rfl
        have hcz124_2 : wc.cell? ⟨gb184, 2, none⟩ = some (.int .i64 t180) := (blk_cell BK184.out 2).trans rfl
        have hfz124_0 := blk_frozen BK184.out 0
        have hfz124_1 := blk_frozen BK184.out 1
        have hfz124_2 := blk_frozen BK184.out 2
        try go_wp2
        have n0_ := Aside0.mk (blk_drew BK168.out)
        have n1_ := Aside0.mk (blk_drew BK173.out)
        have n2_ := Aside0.mk (blk_drew BK184.out)
        have n3_ := Aside0.mk (blk_drew BK185.out)
        have n4_ := Aside0.mk (below_drew1 HB.out)
        clear BK168
        clear BK173
        clear BK184
        clear BK185
        clear HB
        have BK168 := n0_
        have BK173 := n1_
        have BK184 := n2_
        have BK185 := n3_
        have HB := n4_
        clear n0_ n1_ n2_ n3_ n4_
        refine start_ (n := 22) (S := fun w' => w'.cell? ⟨gb173, 0, none⟩ = some (.int .i64 t169) ∧ w'.cell? ⟨gb173, 1, none⟩ = some (.int .i64 t170) ∧ w'.cell? ⟨gb173, 2, none⟩ = some (.int .i64 t171) ∧ w'.cell? ⟨gb184, 0, none⟩ = some (.int .i64 t178) ∧ w'.cell? ⟨gb184, 1, none⟩ = some (.int .i64 t179) ∧ w'.cell? ⟨gb184, 2, none⟩ = some (.int .i64 t180)) (ds := []) #[false, false, false, false, false, false, false, false, false, false, false, false, false, false, false, false, false, false, false, false, false, false] (by kernel_rfl) rfl rfl ⟨(blk_cell BK173.out 0).trans rfl, (blk_cell BK173.out 1).trans rfl, (blk_cell BK173.out 2).trans rfl, (blk_cell BK184.out 0).trans rfl, (blk_cell BK184.out 1).trans rfl, (blk_cell BK184.out 2).trans rfl⟩ (fun hHeld => ?_); refine with_tabW windrowlaw06_LayoutApart.tab19 windrowlaw06_LayoutApart.bits19 (fun HT_ HW_ => ?_)
        generalize wc.drew = w125 at BK168 BK173 BK184 BK185 HB hHeld ⊢
        refine pure_ (i := 1) (N := some 113) (v := ?_) (a' := ?_) #[false, true, false, false, false, false, false, false, false, false, false, false, false, false, false, false, false, false, false, false, false, false] rfl rfl (any_of HT_.out (by kernel_rfl)) (fun _ _ _ h => h) (Or.inl ⟨by rfl, ?_⟩) ?_ ?_
        rotate_left
        · intro w'
          go_simp
          with_reducible rfl
        rotate_left
        · simp only [Act.put, List.setIfInBounds_toArray, List.set_cons_zero, List.set_cons_succ, i64_w, i32_w]
          rfl
        refine pure_ (i := 5) (N := some 117) (v := ?_) (a' := ?_) #[false, true, false, false, false, true, false, false, false, false, false, false, false, false, false, false, false, false, false, false, false, false] rfl rfl (any_of HT_.out (by kernel_rfl)) (fun _ _ _ h => h) (Or.inl ⟨by rfl, ?_⟩) ?_ ?_
        rotate_left
        · intro w'
          go_simp
          with_reducible rfl
        rotate_left
        · simp only [Act.put, List.setIfInBounds_toArray, List.set_cons_zero, List.set_cons_succ, i64_w, i32_w]
          rfl
        refine pure_ (i := 9) (N := some 121) (v := ?_) (a' := ?_) #[false, true, false, false, false, true, false, false, false, true, false, false, false, false, false, false, false, false, false, false, false, false] rfl rfl (any_of HT_.out (by kernel_rfl)) (fun _ _ _ h => h) (Or.inl ⟨by rfl, ?_⟩) ?_ ?_
        rotate_left
        · intro w'
          go_simp
          with_reducible rfl
        rotate_left
        · simp only [Act.put, List.setIfInBounds_toArray, List.set_cons_zero, List.set_cons_succ, i64_w, i32_w]
          rfl
        refine pure_ (i := 13) (N := some 125) (v := ?_) (a' := ?_) #[false, true, false, false, false, true, false, false, false, true, false, false, false, true, false, false, false, false, false, false, false, false] rfl rfl (any_of HT_.out (by kernel_rfl)) (fun _ _ _ h => h) (Or.inl ⟨by rfl, ?_⟩) ?_ ?_
        rotate_left
        · intro w'
          go_simp
          with_reducible rfl
        rotate_left
        · simp only [Act.put, List.setIfInBounds_toArray, List.set_cons_zero, List.set_cons_succ, i64_w, i32_w]
          rfl
        refine pure_ (i := 17) (N := some 129) (v := ?_) (a' := ?_) #[false, true, false, false, false, true, false, false, false, true, false, false, false, true, false, false, false, true, false, false, false, false] rfl rfl (any_of HT_.out (by kernel_rfl)) (fun _ _ _ h => h) (Or.inl ⟨by rfl, ?_⟩) ?_ ?_
        rotate_left
        · intro w'
          go_simp
          with_reducible rfl
        rotate_left
        · simp only [Act.put, List.setIfInBounds_toArray, List.set_cons_zero, List.set_cons_succ, i64_w, i32_w]
          rfl
        refine take_ (i := 0) (N := some 112) (v := ?_) (a' := ?_) #[true, true, false, false, false, true, false, false, false, true, false, false, false, true, false, false, false, true, false, false, false, false] rfl rfl (take_ofW HT_.out HW_.out (by kernel_rfl)) (fun _ _ _ h => h) (Or.inl ⟨by rfl, ?_⟩) hHeld ?_ ?_
        rotate_left
        · rintro w' ⟨s0, s1, s2, s3, s4, s5⟩
          go_simp
          with_reducible rfl
        rotate_left
        · simp only [Act.put, List.setIfInBounds_toArray, List.set_cons_zero, List.set_cons_succ, i64_w, i32_w]
          rfl
        refine take_ (i := 2) (N := some 114) (v := ?_) (a' := ?_) #[true, true, true, false, false, true, false, false, false, true, false, false, false, true, false, false, false, true, false, false, false, false] rfl rfl (take_ofW HT_.out HW_.out (by kernel_rfl)) (fun _ _ _ h => h) (Or.inl ⟨by rfl, ?_⟩) hHeld ?_ ?_
        rotate_left
        · rintro w' ⟨s0, s1, s2, s3, s4, s5⟩
          go_simp
          with_reducible rfl
        rotate_left
        · simp only [Act.put, List.setIfInBounds_toArray, List.set_cons_zero, List.set_cons_succ, i64_w, i32_w]
          rfl
        refine take_ (i := 4) (N := some 116) (v := ?_) (a' := ?_) #[true, true, true, false, true, true, false, false, false, true, false, false, false, true, false, false, false, true, false, false, false, false] rfl rfl (take_ofW HT_.out HW_.out (by kernel_rfl)) (fun _ _ _ h => h) (Or.inl ⟨by rfl, ?_⟩) hHeld ?_ ?_
        rotate_left
        · rintro w' ⟨s0, s1, s2, s3, s4, s5⟩
          go_simp
          with_reducible rfl
        rotate_left
        · simp only [Act.put, List.setIfInBounds_toArray, List.set_cons_zero, List.set_cons_succ, i64_w, i32_w]
          rfl
        refine take_ (i := 6) (N := some 118) (v := ?_) (a' := ?_) #[true, true, true, false, true, true, true, false, false, true, false, false, false, true, false, false, false, true, false, false, false, false] rfl rfl (take_ofW HT_.out HW_.out (by kernel_rfl)) (fun _ _ _ h => h) (Or.inl ⟨by rfl, ?_⟩) hHeld ?_ ?_
        rotate_left
        · rintro w' ⟨s0, s1, s2, s3, s4, s5⟩
          go_simp
          with_reducible rfl
        rotate_left
        · simp only [Act.put, List.setIfInBounds_toArray, List.set_cons_zero, List.set_cons_succ, i64_w, i32_w]
          rfl
        refine take_ (i := 8) (N := some 120) (v := ?_) (a' := ?_) #[true, true, true, false, true, true, true, false, true, true, false, false, false, true, false, false, false, true, false, false, false, false] rfl rfl (take_ofW HT_.out HW_.out (by kernel_rfl)) (fun _ _ _ h => h) (Or.inl ⟨by rfl, ?_⟩) hHeld ?_ ?_
        rotate_left
        · rintro w' ⟨s0, s1, s2, s3, s4, s5⟩
          go_simp
          with_reducible rfl
        rotate_left
        · simp only [Act.put, List.setIfInBounds_toArray, List.set_cons_zero, List.set_cons_succ, i64_w, i32_w]
          rfl
        refine take_ (i := 10) (N := some 122) (v := ?_) (a' := ?_) #[true, true, true, false, true, true, true, false, true, true, true, false, false, true, false, false, false, true, false, false, false, false] rfl rfl (take_ofW HT_.out HW_.out (by kernel_rfl)) (fun _ _ _ h => h) (Or.inl ⟨by rfl, ?_⟩) hHeld ?_ ?_
        rotate_left
        · rintro w' ⟨s0, s1, s2, s3, s4, s5⟩
          go_simp
          with_reducible rfl
        rotate_left
        · simp only [Act.put, List.setIfInBounds_toArray, List.set_cons_zero, List.set_cons_succ, i64_w, i32_w]
          rfl
        refine take_ (i := 12) (N := some 124) (v := ?_) (a' := ?_) #[true, true, true, false, true, true, true, false, true, true, true, false, true, true, false, false, false, true, false, false, false, false] rfl rfl (take_ofW HT_.out HW_.out (by kernel_rfl)) (fun _ _ _ h => h) (Or.inl ⟨by rfl, ?_⟩) hHeld ?_ ?_
        rotate_left
        · rintro w' ⟨s0, s1, s2, s3, s4, s5⟩
          go_simp
          with_reducible rfl
        rotate_left
        · simp only [Act.put, List.setIfInBounds_toArray, List.set_cons_zero, List.set_cons_succ, i64_w, i32_w]
          rfl
        refine take_ (i := 14) (N := some 126) (v := ?_) (a' := ?_) #[true, true, true, false, true, true, true, false, true, true, true, false, true, true, true, false, false, true, false, false, false, false] rfl rfl (take_ofW HT_.out HW_.out (by kernel_rfl)) (fun _ _ _ h => h) (Or.inl ⟨by rfl, ?_⟩) hHeld ?_ ?_
        rotate_left
        · rintro w' ⟨s0, s1, s2, s3, s4, s5⟩
          go_simp
          with_reducible rfl
        rotate_left
        · simp only [Act.put, List.setIfInBounds_toArray, List.set_cons_zero, List.set_cons_succ, i64_w, i32_w]
          rfl
        refine take_ (i := 16) (N := some 128) (v := ?_) (a' := ?_) #[true, true, true, false, true, true, true, false, true, true, true, false, true, true, true, false, true, true, false, false, false, false] rfl rfl (take_ofW HT_.out HW_.out (by kernel_rfl)) (fun _ _ _ h => h) (Or.inl ⟨by rfl, ?_⟩) hHeld ?_ ?_
        rotate_left
        · rintro w' ⟨s0, s1, s2, s3, s4, s5⟩
          go_simp
          with_reducible rfl
        rotate_left
        · simp only [Act.put, List.setIfInBounds_toArray, List.set_cons_zero, List.set_cons_succ, i64_w, i32_w]
          rfl
        refine take_ (i := 18) (N := some 130) (v := ?_) (a' := ?_) #[true, true, true, false, true, true, true, false, true, true, true, false, true, true, true, false, true, true, true, false, false, false] rfl rfl (take_ofW HT_.out HW_.out (by kernel_rfl)) (fun _ _ _ h => h) (Or.inl ⟨by rfl, ?_⟩) hHeld ?_ ?_
        rotate_left
        · rintro w' ⟨s0, s1, s2, s3, s4, s5⟩
          go_simp
          with_reducible rfl
        rotate_left
        · simp only [Act.put, List.setIfInBounds_toArray, List.set_cons_zero, List.set_cons_succ, i64_w, i32_w]
          rfl
        refine one_ (i := 3) (N := some 115) #[true, true, true, true, true, true, true, false, true, true, true, false, true, true, true, false, true, true, true, false, false, false] rfl rfl (one_of HT_.out (by kernel_rfl)) (by decide) (fun K hK => ?_)
        refine goes_ Try.func18 (by kernel_rfl) rfl #[.agg #[.int .i64 t169, .int .i64 t170, .int .i64 t171], .int .i64 t179] (by rfl) rfl rfl (by (try simp only [List.map_toArray, List.map_cons, List.map_nil]); first | done | rfl | (simp only [List.length_drop, List.length_take]; rfl)) ?_
        with_reducible refine (layout_Plan_Status.calls t169 t170 t171 t179 t188 _ A98.out).mono ?_
        rintro e w126 ⟨rfl, hb⟩
        refine ⟨_, rfl, ?_⟩
        have n0_ := Aside0.mk (blk_below (g := gb168) (o := .cells #[.int .i64 a0_0, .int .i64 a0_1, .int .i64 a0_2, .int .i64 a0_3, .int .i64 a0_4] 57 (0, 0)) (pk BK168.out) hb)
        have n1_ := Aside0.mk (blk_below (g := gb173) (o := .cells #[.int .i64 t169, .int .i64 t170, .int .i64 t171] 23 (0, 0)) (pk BK173.out) hb)
        have n2_ := Aside0.mk (blk_below (g := gb184) (o := .cells #[.int .i64 t178, .int .i64 t179, .int .i64 t180] 52 (0, 0)) (pk BK184.out) hb)
        have n3_ := Aside0.mk (blk_below (g := gb185) (o := .cells #[.int .i64 t181, .int .i64 t182, .int .i64 t183] 52 (0, 0)) (pk BK185.out) hb)
        have n4_ := Aside0.mk (below_step (pb HB.out) hb)
        clear BK168
        clear BK173
        clear BK184
        clear BK185
        clear HB
        have BK168 := n0_
        have BK173 := n1_
        have BK184 := n2_
        have BK185 := n3_
        have HB := n4_
        clear n0_ n1_ n2_ n3_ n4_
        (try clear hb)
        (try clear hb2)
        (try clear hk)
        (try clear hi)
        refine hK.out _ _ ⟨(blk_cell BK173.out 0).trans rfl, (blk_cell BK173.out 1).trans rfl, (blk_cell BK173.out 2).trans rfl, (blk_cell BK184.out 0).trans rfl, (blk_cell BK184.out 1).trans rfl, (blk_cell BK184.out 2).trans rfl⟩ (fun hHeld => ?_)
        clear hK K
        refine norm_ (a' := ?_) ?_ ?_
        rotate_left
        · show Act.put _ (some 115) _ = _
          simp only [Act.put, List.setIfInBounds_toArray, List.set_cons_zero, List.set_cons_succ, i64_w, i32_w]
          rfl
        refine one_ (i := 7) (N := some 119) #[true, true, true, true, true, true, true, true, true, true, true, false, true, true, true, false, true, true, true, false, false, false] rfl rfl (one_of HT_.out (by kernel_rfl)) (by decide) (fun K hK => ?_)
        refine goes_ Try.func19 (by kernel_rfl) rfl #[.agg #[.int .i64 t169, .int .i64 t170, .int .i64 t171], .int .i64 t179] (by rfl) rfl rfl (by (try simp only [List.map_toArray, List.map_cons, List.map_nil]); first | done | rfl | (simp only [List.length_drop, List.length_take]; rfl)) ?_
        with_reducible refine (layout_Plan_Ack.calls t169 t170 t171 t179 t189 _ A99.out).mono ?_
        rintro e w127 ⟨rfl, hb⟩
        refine ⟨_, rfl, ?_⟩
        have n0_ := Aside0.mk (blk_below (g := gb168) (o := .cells #[.int .i64 a0_0, .int .i64 a0_1, .int .i64 a0_2, .int .i64 a0_3, .int .i64 a0_4] 57 (0, 0)) (pk BK168.out) hb)
        have n1_ := Aside0.mk (blk_below (g := gb173) (o := .cells #[.int .i64 t169, .int .i64 t170, .int .i64 t171] 23 (0, 0)) (pk BK173.out) hb)
        have n2_ := Aside0.mk (blk_below (g := gb184) (o := .cells #[.int .i64 t178, .int .i64 t179, .int .i64 t180] 52 (0, 0)) (pk BK184.out) hb)
        have n3_ := Aside0.mk (blk_below (g := gb185) (o := .cells #[.int .i64 t181, .int .i64 t182, .int .i64 t183] 52 (0, 0)) (pk BK185.out) hb)
        have n4_ := Aside0.mk (below_step (pb HB.out) hb)
        clear BK168
        clear BK173
        clear BK184
        clear BK185
        clear HB
        have BK168 := n0_
        have BK173 := n1_
        have BK184 := n2_
        have BK185 := n3_
        have HB := n4_
        clear n0_ n1_ n2_ n3_ n4_
        (try clear hb)
        (try clear hb2)
        (try clear hk)
        (try clear hi)
        refine hK.out _ _ ⟨(blk_cell BK173.out 0).trans rfl, (blk_cell BK173.out 1).trans rfl, (blk_cell BK173.out 2).trans rfl, (blk_cell BK184.out 0).trans rfl, (blk_cell BK184.out 1).trans rfl, (blk_cell BK184.out 2).trans rfl⟩ (fun hHeld => ?_)
        clear hK K
        refine norm_ (a' := ?_) ?_ ?_
        rotate_left
        · show Act.put _ (some 119) _ = _
          simp only [Act.put, List.setIfInBounds_toArray, List.set_cons_zero, List.set_cons_succ, i64_w, i32_w]
          rfl
        refine one_ (i := 11) (N := some 123) #[true, true, true, true, true, true, true, true, true, true, true, true, true, true, true, false, true, true, true, false, false, false] rfl rfl (one_of HT_.out (by kernel_rfl)) (by decide) (fun K hK => ?_)
        refine goes_ Try.func20 (by kernel_rfl) rfl #[.agg #[.int .i64 t169, .int .i64 t170, .int .i64 t171], .int .i64 t179] (by rfl) rfl rfl (by (try simp only [List.map_toArray, List.map_cons, List.map_nil]); first | done | rfl | (simp only [List.length_drop, List.length_take]; rfl)) ?_
        with_reducible refine (layout_Plan_Result.calls t169 t170 t171 t179 t190 _ A100.out).mono ?_
        rintro e w128 ⟨rfl, hb⟩
        refine ⟨_, rfl, ?_⟩
        have n0_ := Aside0.mk (blk_below (g := gb168) (o := .cells #[.int .i64 a0_0, .int .i64 a0_1, .int .i64 a0_2, .int .i64 a0_3, .int .i64 a0_4] 57 (0, 0)) (pk BK168.out) hb)
        have n1_ := Aside0.mk (blk_below (g := gb173) (o := .cells #[.int .i64 t169, .int .i64 t170, .int .i64 t171] 23 (0, 0)) (pk BK173.out) hb)
        have n2_ := Aside0.mk (blk_below (g := gb184) (o := .cells #[.int .i64 t178, .int .i64 t179, .int .i64 t180] 52 (0, 0)) (pk BK184.out) hb)
        have n3_ := Aside0.mk (blk_below (g := gb185) (o := .cells #[.int .i64 t181, .int .i64 t182, .int .i64 t183] 52 (0, 0)) (pk BK185.out) hb)
        have n4_ := Aside0.mk (below_step (pb HB.out) hb)
        clear BK168
        clear BK173
        clear BK184
        clear BK185
        clear HB
        have BK168 := n0_
        have BK173 := n1_
        have BK184 := n2_
        have BK185 := n3_
        have HB := n4_
        clear n0_ n1_ n2_ n3_ n4_
        (try clear hb)
        (try clear hb2)
        (try clear hk)
        (try clear hi)
        refine hK.out _ _ ⟨(blk_cell BK173.out 0).trans rfl, (blk_cell BK173.out 1).trans rfl, (blk_cell BK173.out 2).trans rfl, (blk_cell BK184.out 0).trans rfl, (blk_cell BK184.out 1).trans rfl, (blk_cell BK184.out 2).trans rfl⟩ (fun hHeld => ?_)
        clear hK K
        refine norm_ (a' := ?_) ?_ ?_
        rotate_left
        · show Act.put _ (some 123) _ = _
          simp only [Act.put, List.setIfInBounds_toArray, List.set_cons_zero, List.set_cons_succ, i64_w, i32_w]
          rfl
        refine one_ (i := 15) (N := some 127) #[true, true, true, true, true, true, true, true, true, true, true, true, true, true, true, true, true, true, true, false, false, false] rfl rfl (one_of HT_.out (by kernel_rfl)) (by decide) (fun K hK => ?_)
        refine goes_ Try.func21 (by kernel_rfl) rfl #[.agg #[.int .i64 t169, .int .i64 t170, .int .i64 t171], .int .i64 t179] (by rfl) rfl rfl (by (try simp only [List.map_toArray, List.map_cons, List.map_nil]); first | done | rfl | (simp only [List.length_drop, List.length_take]; rfl)) ?_
        with_reducible refine (layout_Plan_Head.calls t169 t170 t171 t179 t191 _ A101.out).mono ?_
        rintro e w129 ⟨rfl, hb⟩
        refine ⟨_, rfl, ?_⟩
        have n0_ := Aside0.mk (blk_below (g := gb168) (o := .cells #[.int .i64 a0_0, .int .i64 a0_1, .int .i64 a0_2, .int .i64 a0_3, .int .i64 a0_4] 57 (0, 0)) (pk BK168.out) hb)
        have n1_ := Aside0.mk (blk_below (g := gb173) (o := .cells #[.int .i64 t169, .int .i64 t170, .int .i64 t171] 23 (0, 0)) (pk BK173.out) hb)
        have n2_ := Aside0.mk (blk_below (g := gb184) (o := .cells #[.int .i64 t178, .int .i64 t179, .int .i64 t180] 52 (0, 0)) (pk BK184.out) hb)
        have n3_ := Aside0.mk (blk_below (g := gb185) (o := .cells #[.int .i64 t181, .int .i64 t182, .int .i64 t183] 52 (0, 0)) (pk BK185.out) hb)
        have n4_ := Aside0.mk (below_step (pb HB.out) hb)
        clear BK168
        clear BK173
        clear BK184
        clear BK185
        clear HB
        have BK168 := n0_
        have BK173 := n1_
        have BK184 := n2_
        have BK185 := n3_
        have HB := n4_
        clear n0_ n1_ n2_ n3_ n4_
        (try clear hb)
        (try clear hb2)
        (try clear hk)
        (try clear hi)
        refine hK.out _ _ ⟨(blk_cell BK173.out 0).trans rfl, (blk_cell BK173.out 1).trans rfl, (blk_cell BK173.out 2).trans rfl, (blk_cell BK184.out 0).trans rfl, (blk_cell BK184.out 1).trans rfl, (blk_cell BK184.out 2).trans rfl⟩ (fun hHeld => ?_)
        clear hK K
        refine norm_ (a' := ?_) ?_ ?_
        rotate_left
        · show Act.put _ (some 127) _ = _
          simp only [Act.put, List.setIfInBounds_toArray, List.set_cons_zero, List.set_cons_succ, i64_w, i32_w]
          rfl
        refine one_ (i := 19) (N := some 131) #[true, true, true, true, true, true, true, true, true, true, true, true, true, true, true, true, true, true, true, true, false, false] rfl rfl (one_of HT_.out (by kernel_rfl)) (by decide) (fun K hK => ?_)
        refine goes_ Try.func22 (by kernel_rfl) rfl #[.agg #[.int .i64 t169, .int .i64 t170, .int .i64 t171], .int .i64 t179] (by rfl) rfl rfl (by (try simp only [List.map_toArray, List.map_cons, List.map_nil]); first | done | rfl | (simp only [List.length_drop, List.length_take]; rfl)) ?_
        with_reducible refine (layout_Plan_Tail.calls t169 t170 t171 t179 t192 _ A102.out).mono ?_
        rintro e w130 ⟨rfl, hb⟩
        refine ⟨_, rfl, ?_⟩
        have n0_ := Aside0.mk (blk_below (g := gb168) (o := .cells #[.int .i64 a0_0, .int .i64 a0_1, .int .i64 a0_2, .int .i64 a0_3, .int .i64 a0_4] 57 (0, 0)) (pk BK168.out) hb)
        have n1_ := Aside0.mk (blk_below (g := gb173) (o := .cells #[.int .i64 t169, .int .i64 t170, .int .i64 t171] 23 (0, 0)) (pk BK173.out) hb)
        have n2_ := Aside0.mk (blk_below (g := gb184) (o := .cells #[.int .i64 t178, .int .i64 t179, .int .i64 t180] 52 (0, 0)) (pk BK184.out) hb)
        have n3_ := Aside0.mk (blk_below (g := gb185) (o := .cells #[.int .i64 t181, .int .i64 t182, .int .i64 t183] 52 (0, 0)) (pk BK185.out) hb)
        have n4_ := Aside0.mk (below_step (pb HB.out) hb)
        clear BK168
        clear BK173
        clear BK184
        clear BK185
        clear HB
        have BK168 := n0_
        have BK173 := n1_
        have BK184 := n2_
        have BK185 := n3_
        have HB := n4_
        clear n0_ n1_ n2_ n3_ n4_
        (try clear hb)
        (try clear hb2)
        (try clear hk)
        (try clear hi)
        refine hK.out _ _ ⟨(blk_cell BK173.out 0).trans rfl, (blk_cell BK173.out 1).trans rfl, (blk_cell BK173.out 2).trans rfl, (blk_cell BK184.out 0).trans rfl, (blk_cell BK184.out 1).trans rfl, (blk_cell BK184.out 2).trans rfl⟩ (fun hHeld => ?_)
        clear hK K
        refine norm_ (a' := ?_) ?_ ?_
        rotate_left
        · show Act.put _ (some 131) _ = _
          simp only [Act.put, List.setIfInBounds_toArray, List.set_cons_zero, List.set_cons_succ, i64_w, i32_w]
          rfl
        refine one_ (i := 20) (N := some 132) #[true, true, true, true, true, true, true, true, true, true, true, true, true, true, true, true, true, true, true, true, true, false] rfl rfl (one_of HT_.out (by kernel_rfl)) (by decide) (fun K hK => ?_)
        refine Kd.R_lit_step (Kd.int .i64) _ 3 ?hg (N := 132) ?hd (xs := ([t188, t189, t190, t191, t192] : List Int)) (inner := [.int .i64 t188, .int .i64 t189, .int .i64 t190, .int .i64 t191, .int .i64 t192]) (ok := fun _ => True) (okp := fun _ => True) ?hr ?hp (fun _ hk => hk) trivial (Below.refl _ _) (Nat.le_refl _) (by simp) ?_; (case hd => rfl); (case hg => rfl); (case hr => first | (go_simp; done) | (go_simp; rfl)); (case hp => exact (Reps.one (show Kd.M (Kd.int .i64) _ _ _ t188 [.int .i64 t188] from rfl) (Reps.one (show Kd.M (Kd.int .i64) _ _ _ t189 [.int .i64 t189] from rfl) (Reps.one (show Kd.M (Kd.int .i64) _ _ _ t190 [.int .i64 t190] from rfl) (Reps.one (show Kd.M (Kd.int .i64) _ _ _ t191 [.int .i64 t191] from rfl) (Reps.one (show Kd.M (Kd.int .i64) _ _ _ t192 [.int .i64 t192] from rfl) (Reps.none _ _)))))))
        intro v194 w131 ho132 hb hg_ hnew_
        clear hg_ hnew_
        (first | rw [← Ny193.out] at ho132 | (simp only [Int.reduceToNat] at ho132; rw [← Ny193.out] at ho132))
        have n0_ := Aside0.mk (Kd.R_lower ho132 (below_size (pb HB.out)))
        have n1_ := Aside0.mk (blk_below (g := gb168) (o := .cells #[.int .i64 a0_0, .int .i64 a0_1, .int .i64 a0_2, .int .i64 a0_3, .int .i64 a0_4] 57 (0, 0)) (pk BK168.out) hb)
        have n2_ := Aside0.mk (blk_below (g := gb173) (o := .cells #[.int .i64 t169, .int .i64 t170, .int .i64 t171] 23 (0, 0)) (pk BK173.out) hb)
        have n3_ := Aside0.mk (blk_below (g := gb184) (o := .cells #[.int .i64 t178, .int .i64 t179, .int .i64 t180] 52 (0, 0)) (pk BK184.out) hb)
        have n4_ := Aside0.mk (blk_below (g := gb185) (o := .cells #[.int .i64 t181, .int .i64 t182, .int .i64 t183] 52 (0, 0)) (pk BK185.out) hb)
        have n5_ := Aside0.mk (below_step (pb HB.out) hb)
        clear BK168
        clear BK173
        clear BK184
        clear BK185
        clear HB
        have HO195 := n0_
        have BK168 := n1_
        have BK173 := n2_
        have BK184 := n3_
        have BK185 := n4_
        have HB := n5_
        clear n0_ n1_ n2_ n3_ n4_ n5_
        clear hb ho132
        refine hK.out _ _ ⟨(blk_cell BK173.out 0).trans rfl, (blk_cell BK173.out 1).trans rfl, (blk_cell BK173.out 2).trans rfl, (blk_cell BK184.out 0).trans rfl, (blk_cell BK184.out 1).trans rfl, (blk_cell BK184.out 2).trans rfl⟩ (fun hHeld => ?_)
        clear hK K
        refine norm_ (a' := ?_) ?_ ?_
        rotate_left
        · show Act.put _ (some 132) _ = _
          simp only [Act.put, List.setIfInBounds_toArray, List.set_cons_zero, List.set_cons_succ, i64_w, i32_w]
          rfl
        refine pure_ (i := 21) (N := some 13) (v := ?_) (a' := ?_) #[true, true, true, true, true, true, true, true, true, true, true, true, true, true, true, true, true, true, true, true, true, true] rfl rfl (any_of HT_.out (by kernel_rfl)) (fun _ _ _ h => h) (Or.inl ⟨by rfl, ?_⟩) ?_ ?_
        rotate_left
        · intro w'
          go_simp
          with_reducible rfl
        rotate_left
        · simp only [Act.put, List.setIfInBounds_toArray, List.set_cons_zero, List.set_cons_succ, i64_w, i32_w]
          rfl
        refine done_ (done_of HT_.out (by kernel_rfl)) ?_
        have hcz133_0 : w131.cell? ⟨gb184, 0, none⟩ = some (.int .i64 t178) := (blk_cell BK184.out 0).trans rfl
        have hcz133_1 : w131.cell? ⟨gb184, 1, none⟩ = some (.int .i64 t179) := (blk_cell BK184.out 1).trans rfl
        have hcz133_2 : w131.cell? ⟨gb184, 2, none⟩ = some (.int .i64 t180) := (blk_cell BK184.out 2).trans rfl
        have hfz133_0 := blk_frozen BK184.out 0
        have hfz133_1 := blk_frozen BK184.out 1
        have hfz133_2 := blk_frozen BK184.out 2
        try go_wp2
        go_ret
        exact ⟨by first | rfl | (simp [errW_none, errW_some] <;> rfl) | (simp [*, errW_none, errW_some] <;> rfl), by repeat (first | (with_reducible first | exact HB.out | apply below_alloc | apply pw_below_drewN | apply below_drew1 | refine below_set ?_ GE168.out | refine below_set ?_ GE173.out | refine below_set ?_ GE184.out | refine below_set ?_ GE185.out) | exact HB.out)⟩
      rw [if_pos c104] at H
      have c104b0 : decide (t180 < 5) = true := decide_eq_true c104
      clear c104
      by_cases c105 : 0 ≤ t180
      rotate_left
      · rw [if_neg c105] at H
        exact absurd H (by simp)
      rw [if_pos c105] at H
      have c105b0 : decide (0 ≤ t180) = true := decide_eq_true c105
      clear c105
      by_cases c106 : t180 < (y193.length : Int)
      rotate_left
      · rw [if_neg c106] at H
        exact absurd H (by simp)
      rw [if_pos c106] at H
      have c106b0 : decide (t180 < (y193.length : Int)) = true := decide_eq_true c106
      clear c106
      obtain rfl := Option.some.inj H
      have hnb107 := NB184_168.out
      have hnc107 := NB168_184.out
      have hnb108 := NB184_173.out
      have hnc108 := NB173_184.out
      have hnb109 := NB184_185.out
      have hnc109 := NB185_184.out
      have hcz110_0 : wc.cell? ⟨gb184, 0, none⟩ = some (.int .i64 t178) := (blk_cell BK184.out 0).trans rfl
      have hcz110_1 : wc.cell? ⟨gb184, 1, none⟩ = some (.int .i64 t179) := (blk_cell BK184.out 1).trans rfl
      have hcz110_2 : wc.cell? ⟨gb184, 2, none⟩ = some (.int .i64 t180) := (blk_cell BK184.out 2).trans rfl
      have hfz110_0 := blk_frozen BK184.out 0
      have hfz110_1 := blk_frozen BK184.out 1
      have hfz110_2 := blk_frozen BK184.out 2
      try go_wp2
      have n0_ := Aside0.mk (blk_drew BK168.out)
      have n1_ := Aside0.mk (blk_drew BK173.out)
      have n2_ := Aside0.mk (blk_drew BK184.out)
      have n3_ := Aside0.mk (blk_drew BK185.out)
      have n4_ := Aside0.mk (below_drew1 HB.out)
      clear BK168
      clear BK173
      clear BK184
      clear BK185
      clear HB
      have BK168 := n0_
      have BK173 := n1_
      have BK184 := n2_
      have BK185 := n3_
      have HB := n4_
      clear n0_ n1_ n2_ n3_ n4_
      refine start_ (n := 22) (S := fun w' => w'.cell? ⟨gb173, 0, none⟩ = some (.int .i64 t169) ∧ w'.cell? ⟨gb173, 1, none⟩ = some (.int .i64 t170) ∧ w'.cell? ⟨gb173, 2, none⟩ = some (.int .i64 t171) ∧ w'.cell? ⟨gb184, 0, none⟩ = some (.int .i64 t178) ∧ w'.cell? ⟨gb184, 1, none⟩ = some (.int .i64 t179) ∧ w'.cell? ⟨gb184, 2, none⟩ = some (.int .i64 t180)) (ds := []) #[false, false, false, false, false, false, false, false, false, false, false, false, false, false, false, false, false, false, false, false, false, false] (by kernel_rfl) rfl rfl ⟨(blk_cell BK173.out 0).trans rfl, (blk_cell BK173.out 1).trans rfl, (blk_cell BK173.out 2).trans rfl, (blk_cell BK184.out 0).trans rfl, (blk_cell BK184.out 1).trans rfl, (blk_cell BK184.out 2).trans rfl⟩ (fun hHeld => ?_); refine with_tabW windrowlaw06_LayoutApart.tab19 windrowlaw06_LayoutApart.bits19 (fun HT_ HW_ => ?_)
      generalize wc.drew = w111 at BK168 BK173 BK184 BK185 HB hHeld ⊢
      refine pure_ (i := 1) (N := some 113) (v := ?_) (a' := ?_) #[false, true, false, false, false, false, false, false, false, false, false, false, false, false, false, false, false, false, false, false, false, false] rfl rfl (any_of HT_.out (by kernel_rfl)) (fun _ _ _ h => h) (Or.inl ⟨by rfl, ?_⟩) ?_ ?_
      rotate_left
      · intro w'
        go_simp
        with_reducible rfl
      rotate_left
      · simp only [Act.put, List.setIfInBounds_toArray, List.set_cons_zero, List.set_cons_succ, i64_w, i32_w]
        rfl
      refine pure_ (i := 5) (N := some 117) (v := ?_) (a' := ?_) #[false, true, false, false, false, true, false, false, false, false, false, false, false, false, false, false, false, false, false, false, false, false] rfl rfl (any_of HT_.out (by kernel_rfl)) (fun _ _ _ h => h) (Or.inl ⟨by rfl, ?_⟩) ?_ ?_
      rotate_left
      · intro w'
        go_simp
        with_reducible rfl
      rotate_left
      · simp only [Act.put, List.setIfInBounds_toArray, List.set_cons_zero, List.set_cons_succ, i64_w, i32_w]
        rfl
      refine pure_ (i := 9) (N := some 121) (v := ?_) (a' := ?_) #[false, true, false, false, false, true, false, false, false, true, false, false, false, false, false, false, false, false, false, false, false, false] rfl rfl (any_of HT_.out (by kernel_rfl)) (fun _ _ _ h => h) (Or.inl ⟨by rfl, ?_⟩) ?_ ?_
      rotate_left
      · intro w'
        go_simp
        with_reducible rfl
      rotate_left
      · simp only [Act.put, List.setIfInBounds_toArray, List.set_cons_zero, List.set_cons_succ, i64_w, i32_w]
        rfl
      refine pure_ (i := 13) (N := some 125) (v := ?_) (a' := ?_) #[false, true, false, false, false, true, false, false, false, true, false, false, false, true, false, false, false, false, false, false, false, false] rfl rfl (any_of HT_.out (by kernel_rfl)) (fun _ _ _ h => h) (Or.inl ⟨by rfl, ?_⟩) ?_ ?_
      rotate_left
      · intro w'
        go_simp
        with_reducible rfl
      rotate_left
      · simp only [Act.put, List.setIfInBounds_toArray, List.set_cons_zero, List.set_cons_succ, i64_w, i32_w]
        rfl
      refine pure_ (i := 17) (N := some 129) (v := ?_) (a' := ?_) #[false, true, false, false, false, true, false, false, false, true, false, false, false, true, false, false, false, true, false, false, false, false] rfl rfl (any_of HT_.out (by kernel_rfl)) (fun _ _ _ h => h) (Or.inl ⟨by rfl, ?_⟩) ?_ ?_
      rotate_left
      · intro w'
        go_simp
        with_reducible rfl
      rotate_left
      · simp only [Act.put, List.setIfInBounds_toArray, List.set_cons_zero, List.set_cons_succ, i64_w, i32_w]
        rfl
      refine take_ (i := 0) (N := some 112) (v := ?_) (a' := ?_) #[true, true, false, false, false, true, false, false, false, true, false, false, false, true, false, false, false, true, false, false, false, false] rfl rfl (take_ofW HT_.out HW_.out (by kernel_rfl)) (fun _ _ _ h => h) (Or.inl ⟨by rfl, ?_⟩) hHeld ?_ ?_
      rotate_left
      · rintro w' ⟨s0, s1, s2, s3, s4, s5⟩
        go_simp
        with_reducible rfl
      rotate_left
      · simp only [Act.put, List.setIfInBounds_toArray, List.set_cons_zero, List.set_cons_succ, i64_w, i32_w]
        rfl
      refine take_ (i := 2) (N := some 114) (v := ?_) (a' := ?_) #[true, true, true, false, false, true, false, false, false, true, false, false, false, true, false, false, false, true, false, false, false, false] rfl rfl (take_ofW HT_.out HW_.out (by kernel_rfl)) (fun _ _ _ h => h) (Or.inl ⟨by rfl, ?_⟩) hHeld ?_ ?_
      rotate_left
      · rintro w' ⟨s0, s1, s2, s3, s4, s5⟩
        go_simp
        with_reducible rfl
      rotate_left
      · simp only [Act.put, List.setIfInBounds_toArray, List.set_cons_zero, List.set_cons_succ, i64_w, i32_w]
        rfl
      refine take_ (i := 4) (N := some 116) (v := ?_) (a' := ?_) #[true, true, true, false, true, true, false, false, false, true, false, false, false, true, false, false, false, true, false, false, false, false] rfl rfl (take_ofW HT_.out HW_.out (by kernel_rfl)) (fun _ _ _ h => h) (Or.inl ⟨by rfl, ?_⟩) hHeld ?_ ?_
      rotate_left
      · rintro w' ⟨s0, s1, s2, s3, s4, s5⟩
        go_simp
        with_reducible rfl
      rotate_left
      · simp only [Act.put, List.setIfInBounds_toArray, List.set_cons_zero, List.set_cons_succ, i64_w, i32_w]
        rfl
      refine take_ (i := 6) (N := some 118) (v := ?_) (a' := ?_) #[true, true, true, false, true, true, true, false, false, true, false, false, false, true, false, false, false, true, false, false, false, false] rfl rfl (take_ofW HT_.out HW_.out (by kernel_rfl)) (fun _ _ _ h => h) (Or.inl ⟨by rfl, ?_⟩) hHeld ?_ ?_
      rotate_left
      · rintro w' ⟨s0, s1, s2, s3, s4, s5⟩
        go_simp
        with_reducible rfl
      rotate_left
      · simp only [Act.put, List.setIfInBounds_toArray, List.set_cons_zero, List.set_cons_succ, i64_w, i32_w]
        rfl
      refine take_ (i := 8) (N := some 120) (v := ?_) (a' := ?_) #[true, true, true, false, true, true, true, false, true, true, false, false, false, true, false, false, false, true, false, false, false, false] rfl rfl (take_ofW HT_.out HW_.out (by kernel_rfl)) (fun _ _ _ h => h) (Or.inl ⟨by rfl, ?_⟩) hHeld ?_ ?_
      rotate_left
      · rintro w' ⟨s0, s1, s2, s3, s4, s5⟩
        go_simp
        with_reducible rfl
      rotate_left
      · simp only [Act.put, List.setIfInBounds_toArray, List.set_cons_zero, List.set_cons_succ, i64_w, i32_w]
        rfl
      refine take_ (i := 10) (N := some 122) (v := ?_) (a' := ?_) #[true, true, true, false, true, true, true, false, true, true, true, false, false, true, false, false, false, true, false, false, false, false] rfl rfl (take_ofW HT_.out HW_.out (by kernel_rfl)) (fun _ _ _ h => h) (Or.inl ⟨by rfl, ?_⟩) hHeld ?_ ?_
      rotate_left
      · rintro w' ⟨s0, s1, s2, s3, s4, s5⟩
        go_simp
        with_reducible rfl
      rotate_left
      · simp only [Act.put, List.setIfInBounds_toArray, List.set_cons_zero, List.set_cons_succ, i64_w, i32_w]
        rfl
      refine take_ (i := 12) (N := some 124) (v := ?_) (a' := ?_) #[true, true, true, false, true, true, true, false, true, true, true, false, true, true, false, false, false, true, false, false, false, false] rfl rfl (take_ofW HT_.out HW_.out (by kernel_rfl)) (fun _ _ _ h => h) (Or.inl ⟨by rfl, ?_⟩) hHeld ?_ ?_
      rotate_left
      · rintro w' ⟨s0, s1, s2, s3, s4, s5⟩
        go_simp
        with_reducible rfl
      rotate_left
      · simp only [Act.put, List.setIfInBounds_toArray, List.set_cons_zero, List.set_cons_succ, i64_w, i32_w]
        rfl
      refine take_ (i := 14) (N := some 126) (v := ?_) (a' := ?_) #[true, true, true, false, true, true, true, false, true, true, true, false, true, true, true, false, false, true, false, false, false, false] rfl rfl (take_ofW HT_.out HW_.out (by kernel_rfl)) (fun _ _ _ h => h) (Or.inl ⟨by rfl, ?_⟩) hHeld ?_ ?_
      rotate_left
      · rintro w' ⟨s0, s1, s2, s3, s4, s5⟩
        go_simp
        with_reducible rfl
      rotate_left
      · simp only [Act.put, List.setIfInBounds_toArray, List.set_cons_zero, List.set_cons_succ, i64_w, i32_w]
        rfl
      refine take_ (i := 16) (N := some 128) (v := ?_) (a' := ?_) #[true, true, true, false, true, true, true, false, true, true, true, false, true, true, true, false, true, true, false, false, false, false] rfl rfl (take_ofW HT_.out HW_.out (by kernel_rfl)) (fun _ _ _ h => h) (Or.inl ⟨by rfl, ?_⟩) hHeld ?_ ?_
      rotate_left
      · rintro w' ⟨s0, s1, s2, s3, s4, s5⟩
        go_simp
        with_reducible rfl
      rotate_left
      · simp only [Act.put, List.setIfInBounds_toArray, List.set_cons_zero, List.set_cons_succ, i64_w, i32_w]
        rfl
      refine take_ (i := 18) (N := some 130) (v := ?_) (a' := ?_) #[true, true, true, false, true, true, true, false, true, true, true, false, true, true, true, false, true, true, true, false, false, false] rfl rfl (take_ofW HT_.out HW_.out (by kernel_rfl)) (fun _ _ _ h => h) (Or.inl ⟨by rfl, ?_⟩) hHeld ?_ ?_
      rotate_left
      · rintro w' ⟨s0, s1, s2, s3, s4, s5⟩
        go_simp
        with_reducible rfl
      rotate_left
      · simp only [Act.put, List.setIfInBounds_toArray, List.set_cons_zero, List.set_cons_succ, i64_w, i32_w]
        rfl
      refine one_ (i := 3) (N := some 115) #[true, true, true, true, true, true, true, false, true, true, true, false, true, true, true, false, true, true, true, false, false, false] rfl rfl (one_of HT_.out (by kernel_rfl)) (by decide) (fun K hK => ?_)
      refine goes_ Try.func18 (by kernel_rfl) rfl #[.agg #[.int .i64 t169, .int .i64 t170, .int .i64 t171], .int .i64 t179] (by rfl) rfl rfl (by (try simp only [List.map_toArray, List.map_cons, List.map_nil]); first | done | rfl | (simp only [List.length_drop, List.length_take]; rfl)) ?_
      with_reducible refine (layout_Plan_Status.calls t169 t170 t171 t179 t188 _ A98.out).mono ?_
      rintro e w112 ⟨rfl, hb⟩
      refine ⟨_, rfl, ?_⟩
      have n0_ := Aside0.mk (blk_below (g := gb168) (o := .cells #[.int .i64 a0_0, .int .i64 a0_1, .int .i64 a0_2, .int .i64 a0_3, .int .i64 a0_4] 57 (0, 0)) (pk BK168.out) hb)
      have n1_ := Aside0.mk (blk_below (g := gb173) (o := .cells #[.int .i64 t169, .int .i64 t170, .int .i64 t171] 23 (0, 0)) (pk BK173.out) hb)
      have n2_ := Aside0.mk (blk_below (g := gb184) (o := .cells #[.int .i64 t178, .int .i64 t179, .int .i64 t180] 52 (0, 0)) (pk BK184.out) hb)
      have n3_ := Aside0.mk (blk_below (g := gb185) (o := .cells #[.int .i64 t181, .int .i64 t182, .int .i64 t183] 52 (0, 0)) (pk BK185.out) hb)
      have n4_ := Aside0.mk (below_step (pb HB.out) hb)
      clear BK168
      clear BK173
      clear BK184
      clear BK185
      clear HB
      have BK168 := n0_
      have BK173 := n1_
      have BK184 := n2_
      have BK185 := n3_
      have HB := n4_
      clear n0_ n1_ n2_ n3_ n4_
      (try clear hb)
      (try clear hb2)
      (try clear hk)
      (try clear hi)
      refine hK.out _ _ ⟨(blk_cell BK173.out 0).trans rfl, (blk_cell BK173.out 1).trans rfl, (blk_cell BK173.out 2).trans rfl, (blk_cell BK184.out 0).trans rfl, (blk_cell BK184.out 1).trans rfl, (blk_cell BK184.out 2).trans rfl⟩ (fun hHeld => ?_)
      clear hK K
      refine norm_ (a' := ?_) ?_ ?_
      rotate_left
      · show Act.put _ (some 115) _ = _
        simp only [Act.put, List.setIfInBounds_toArray, List.set_cons_zero, List.set_cons_succ, i64_w, i32_w]
        rfl
      refine one_ (i := 7) (N := some 119) #[true, true, true, true, true, true, true, true, true, true, true, false, true, true, true, false, true, true, true, false, false, false] rfl rfl (one_of HT_.out (by kernel_rfl)) (by decide) (fun K hK => ?_)
      refine goes_ Try.func19 (by kernel_rfl) rfl #[.agg #[.int .i64 t169, .int .i64 t170, .int .i64 t171], .int .i64 t179] (by rfl) rfl rfl (by (try simp only [List.map_toArray, List.map_cons, List.map_nil]); first | done | rfl | (simp only [List.length_drop, List.length_take]; rfl)) ?_
      with_reducible refine (layout_Plan_Ack.calls t169 t170 t171 t179 t189 _ A99.out).mono ?_
      rintro e w113 ⟨rfl, hb⟩
      refine ⟨_, rfl, ?_⟩
      have n0_ := Aside0.mk (blk_below (g := gb168) (o := .cells #[.int .i64 a0_0, .int .i64 a0_1, .int .i64 a0_2, .int .i64 a0_3, .int .i64 a0_4] 57 (0, 0)) (pk BK168.out) hb)
      have n1_ := Aside0.mk (blk_below (g := gb173) (o := .cells #[.int .i64 t169, .int .i64 t170, .int .i64 t171] 23 (0, 0)) (pk BK173.out) hb)
      have n2_ := Aside0.mk (blk_below (g := gb184) (o := .cells #[.int .i64 t178, .int .i64 t179, .int .i64 t180] 52 (0, 0)) (pk BK184.out) hb)
      have n3_ := Aside0.mk (blk_below (g := gb185) (o := .cells #[.int .i64 t181, .int .i64 t182, .int .i64 t183] 52 (0, 0)) (pk BK185.out) hb)
      have n4_ := Aside0.mk (below_step (pb HB.out) hb)
      clear BK168
      clear BK173
      clear BK184
      clear BK185
      clear HB
      have BK168 := n0_
      have BK173 := n1_
      have BK184 := n2_
      have BK185 := n3_
      have HB := n4_
      clear n0_ n1_ n2_ n3_ n4_
      (try clear hb)
      (try clear hb2)
      (try clear hk)
      (try clear hi)
      refine hK.out _ _ ⟨(blk_cell BK173.out 0).trans rfl, (blk_cell BK173.out 1).trans rfl, (blk_cell BK173.out 2).trans rfl, (blk_cell BK184.out 0).trans rfl, (blk_cell BK184.out 1).trans rfl, (blk_cell BK184.out 2).trans rfl⟩ (fun hHeld => ?_)
      clear hK K
      refine norm_ (a' := ?_) ?_ ?_
      rotate_left
      · show Act.put _ (some 119) _ = _
        simp only [Act.put, List.setIfInBounds_toArray, List.set_cons_zero, List.set_cons_succ, i64_w, i32_w]
        rfl
      refine one_ (i := 11) (N := some 123) #[true, true, true, true, true, true, true, true, true, true, true, true, true, true, true, false, true, true, true, false, false, false] rfl rfl (one_of HT_.out (by kernel_rfl)) (by decide) (fun K hK => ?_)
      refine goes_ Try.func20 (by kernel_rfl) rfl #[.agg #[.int .i64 t169, .int .i64 t170, .int .i64 t171], .int .i64 t179] (by rfl) rfl rfl (by (try simp only [List.map_toArray, List.map_cons, List.map_nil]); first | done | rfl | (simp only [List.length_drop, List.length_take]; rfl)) ?_
      with_reducible refine (layout_Plan_Result.calls t169 t170 t171 t179 t190 _ A100.out).mono ?_
      rintro e w114 ⟨rfl, hb⟩
      refine ⟨_, rfl, ?_⟩
      have n0_ := Aside0.mk (blk_below (g := gb168) (o := .cells #[.int .i64 a0_0, .int .i64 a0_1, .int .i64 a0_2, .int .i64 a0_3, .int .i64 a0_4] 57 (0, 0)) (pk BK168.out) hb)
      have n1_ := Aside0.mk (blk_below (g := gb173) (o := .cells #[.int .i64 t169, .int .i64 t170, .int .i64 t171] 23 (0, 0)) (pk BK173.out) hb)
      have n2_ := Aside0.mk (blk_below (g := gb184) (o := .cells #[.int .i64 t178, .int .i64 t179, .int .i64 t180] 52 (0, 0)) (pk BK184.out) hb)
      have n3_ := Aside0.mk (blk_below (g := gb185) (o := .cells #[.int .i64 t181, .int .i64 t182, .int .i64 t183] 52 (0, 0)) (pk BK185.out) hb)
      have n4_ := Aside0.mk (below_step (pb HB.out) hb)
      clear BK168
      clear BK173
      clear BK184
      clear BK185
      clear HB
      have BK168 := n0_
      have BK173 := n1_
      have BK184 := n2_
      have BK185 := n3_
      have HB := n4_
      clear n0_ n1_ n2_ n3_ n4_
      (try clear hb)
      (try clear hb2)
      (try clear hk)
      (try clear hi)
      refine hK.out _ _ ⟨(blk_cell BK173.out 0).trans rfl, (blk_cell BK173.out 1).trans rfl, (blk_cell BK173.out 2).trans rfl, (blk_cell BK184.out 0).trans rfl, (blk_cell BK184.out 1).trans rfl, (blk_cell BK184.out 2).trans rfl⟩ (fun hHeld => ?_)
      clear hK K
      refine norm_ (a' := ?_) ?_ ?_
      rotate_left
      · show Act.put _ (some 123) _ = _
        simp only [Act.put, List.setIfInBounds_toArray, List.set_cons_zero, List.set_cons_succ, i64_w, i32_w]
        rfl
      refine one_ (i := 15) (N := some 127) #[true, true, true, true, true, true, true, true, true, true, true, true, true, true, true, true, true, true, true, false, false, false] rfl rfl (one_of HT_.out (by kernel_rfl)) (by decide) (fun K hK => ?_)
      refine goes_ Try.func21 (by kernel_rfl) rfl #[.agg #[.int .i64 t169, .int .i64 t170, .int .i64 t171], .int .i64 t179] (by rfl) rfl rfl (by (try simp only [List.map_toArray, List.map_cons, List.map_nil]); first | done | rfl | (simp only [List.length_drop, List.length_take]; rfl)) ?_
      with_reducible refine (layout_Plan_Head.calls t169 t170 t171 t179 t191 _ A101.out).mono ?_
      rintro e w115 ⟨rfl, hb⟩
      refine ⟨_, rfl, ?_⟩
      have n0_ := Aside0.mk (blk_below (g := gb168) (o := .cells #[.int .i64 a0_0, .int .i64 a0_1, .int .i64 a0_2, .int .i64 a0_3, .int .i64 a0_4] 57 (0, 0)) (pk BK168.out) hb)
      have n1_ := Aside0.mk (blk_below (g := gb173) (o := .cells #[.int .i64 t169, .int .i64 t170, .int .i64 t171] 23 (0, 0)) (pk BK173.out) hb)
      have n2_ := Aside0.mk (blk_below (g := gb184) (o := .cells #[.int .i64 t178, .int .i64 t179, .int .i64 t180] 52 (0, 0)) (pk BK184.out) hb)
      have n3_ := Aside0.mk (blk_below (g := gb185) (o := .cells #[.int .i64 t181, .int .i64 t182, .int .i64 t183] 52 (0, 0)) (pk BK185.out) hb)
      have n4_ := Aside0.mk (below_step (pb HB.out) hb)
      clear BK168
      clear BK173
      clear BK184
      clear BK185
      clear HB
      have BK168 := n0_
      have BK173 := n1_
      have BK184 := n2_
      have BK185 := n3_
      have HB := n4_
      clear n0_ n1_ n2_ n3_ n4_
      (try clear hb)
      (try clear hb2)
      (try clear hk)
      (try clear hi)
      refine hK.out _ _ ⟨(blk_cell BK173.out 0).trans rfl, (blk_cell BK173.out 1).trans rfl, (blk_cell BK173.out 2).trans rfl, (blk_cell BK184.out 0).trans rfl, (blk_cell BK184.out 1).trans rfl, (blk_cell BK184.out 2).trans rfl⟩ (fun hHeld => ?_)
      clear hK K
      refine norm_ (a' := ?_) ?_ ?_
      rotate_left
      · show Act.put _ (some 127) _ = _
        simp only [Act.put, List.setIfInBounds_toArray, List.set_cons_zero, List.set_cons_succ, i64_w, i32_w]
        rfl
      refine one_ (i := 19) (N := some 131) #[true, true, true, true, true, true, true, true, true, true, true, true, true, true, true, true, true, true, true, true, false, false] rfl rfl (one_of HT_.out (by kernel_rfl)) (by decide) (fun K hK => ?_)
      refine goes_ Try.func22 (by kernel_rfl) rfl #[.agg #[.int .i64 t169, .int .i64 t170, .int .i64 t171], .int .i64 t179] (by rfl) rfl rfl (by (try simp only [List.map_toArray, List.map_cons, List.map_nil]); first | done | rfl | (simp only [List.length_drop, List.length_take]; rfl)) ?_
      with_reducible refine (layout_Plan_Tail.calls t169 t170 t171 t179 t192 _ A102.out).mono ?_
      rintro e w116 ⟨rfl, hb⟩
      refine ⟨_, rfl, ?_⟩
      have n0_ := Aside0.mk (blk_below (g := gb168) (o := .cells #[.int .i64 a0_0, .int .i64 a0_1, .int .i64 a0_2, .int .i64 a0_3, .int .i64 a0_4] 57 (0, 0)) (pk BK168.out) hb)
      have n1_ := Aside0.mk (blk_below (g := gb173) (o := .cells #[.int .i64 t169, .int .i64 t170, .int .i64 t171] 23 (0, 0)) (pk BK173.out) hb)
      have n2_ := Aside0.mk (blk_below (g := gb184) (o := .cells #[.int .i64 t178, .int .i64 t179, .int .i64 t180] 52 (0, 0)) (pk BK184.out) hb)
      have n3_ := Aside0.mk (blk_below (g := gb185) (o := .cells #[.int .i64 t181, .int .i64 t182, .int .i64 t183] 52 (0, 0)) (pk BK185.out) hb)
      have n4_ := Aside0.mk (below_step (pb HB.out) hb)
      clear BK168
      clear BK173
      clear BK184
      clear BK185
      clear HB
      have BK168 := n0_
      have BK173 := n1_
      have BK184 := n2_
      have BK185 := n3_
      have HB := n4_
      clear n0_ n1_ n2_ n3_ n4_
      (try clear hb)
      (try clear hb2)
      (try clear hk)
      (try clear hi)
      refine hK.out _ _ ⟨(blk_cell BK173.out 0).trans rfl, (blk_cell BK173.out 1).trans rfl, (blk_cell BK173.out 2).trans rfl, (blk_cell BK184.out 0).trans rfl, (blk_cell BK184.out 1).trans rfl, (blk_cell BK184.out 2).trans rfl⟩ (fun hHeld => ?_)
      clear hK K
      refine norm_ (a' := ?_) ?_ ?_
      rotate_left
      · show Act.put _ (some 131) _ = _
        simp only [Act.put, List.setIfInBounds_toArray, List.set_cons_zero, List.set_cons_succ, i64_w, i32_w]
        rfl
      refine one_ (i := 20) (N := some 132) #[true, true, true, true, true, true, true, true, true, true, true, true, true, true, true, true, true, true, true, true, true, false] rfl rfl (one_of HT_.out (by kernel_rfl)) (by decide) (fun K hK => ?_)
      refine Kd.R_lit_step (Kd.int .i64) _ 3 ?hg (N := 132) ?hd (xs := ([t188, t189, t190, t191, t192] : List Int)) (inner := [.int .i64 t188, .int .i64 t189, .int .i64 t190, .int .i64 t191, .int .i64 t192]) (ok := fun _ => True) (okp := fun _ => True) ?hr ?hp (fun _ hk => hk) trivial (Below.refl _ _) (Nat.le_refl _) (by simp) ?_; (case hd => rfl); (case hg => rfl); (case hr => first | (go_simp; done) | (go_simp; rfl)); (case hp => exact (Reps.one (show Kd.M (Kd.int .i64) _ _ _ t188 [.int .i64 t188] from rfl) (Reps.one (show Kd.M (Kd.int .i64) _ _ _ t189 [.int .i64 t189] from rfl) (Reps.one (show Kd.M (Kd.int .i64) _ _ _ t190 [.int .i64 t190] from rfl) (Reps.one (show Kd.M (Kd.int .i64) _ _ _ t191 [.int .i64 t191] from rfl) (Reps.one (show Kd.M (Kd.int .i64) _ _ _ t192 [.int .i64 t192] from rfl) (Reps.none _ _)))))))
      intro v194 w117 ho118 hb hg_ hnew_
      clear hg_ hnew_
      (first | rw [← Ny193.out] at ho118 | (simp only [Int.reduceToNat] at ho118; rw [← Ny193.out] at ho118))
      have n0_ := Aside0.mk (Kd.R_lower ho118 (below_size (pb HB.out)))
      have n1_ := Aside0.mk (blk_below (g := gb168) (o := .cells #[.int .i64 a0_0, .int .i64 a0_1, .int .i64 a0_2, .int .i64 a0_3, .int .i64 a0_4] 57 (0, 0)) (pk BK168.out) hb)
      have n2_ := Aside0.mk (blk_below (g := gb173) (o := .cells #[.int .i64 t169, .int .i64 t170, .int .i64 t171] 23 (0, 0)) (pk BK173.out) hb)
      have n3_ := Aside0.mk (blk_below (g := gb184) (o := .cells #[.int .i64 t178, .int .i64 t179, .int .i64 t180] 52 (0, 0)) (pk BK184.out) hb)
      have n4_ := Aside0.mk (blk_below (g := gb185) (o := .cells #[.int .i64 t181, .int .i64 t182, .int .i64 t183] 52 (0, 0)) (pk BK185.out) hb)
      have n5_ := Aside0.mk (below_step (pb HB.out) hb)
      clear BK168
      clear BK173
      clear BK184
      clear BK185
      clear HB
      have HO195 := n0_
      have BK168 := n1_
      have BK173 := n2_
      have BK184 := n3_
      have BK185 := n4_
      have HB := n5_
      clear n0_ n1_ n2_ n3_ n4_ n5_
      clear hb ho118
      refine hK.out _ _ ⟨(blk_cell BK173.out 0).trans rfl, (blk_cell BK173.out 1).trans rfl, (blk_cell BK173.out 2).trans rfl, (blk_cell BK184.out 0).trans rfl, (blk_cell BK184.out 1).trans rfl, (blk_cell BK184.out 2).trans rfl⟩ (fun hHeld => ?_)
      clear hK K
      refine norm_ (a' := ?_) ?_ ?_
      rotate_left
      · show Act.put _ (some 132) _ = _
        simp only [Act.put, List.setIfInBounds_toArray, List.set_cons_zero, List.set_cons_succ, i64_w, i32_w]
        rfl
      refine pure_ (i := 21) (N := some 13) (v := ?_) (a' := ?_) #[true, true, true, true, true, true, true, true, true, true, true, true, true, true, true, true, true, true, true, true, true, true] rfl rfl (any_of HT_.out (by kernel_rfl)) (fun _ _ _ h => h) (Or.inl ⟨by rfl, ?_⟩) ?_ ?_
      rotate_left
      · intro w'
        go_simp
        with_reducible rfl
      rotate_left
      · simp only [Act.put, List.setIfInBounds_toArray, List.set_cons_zero, List.set_cons_succ, i64_w, i32_w]
        rfl
      refine done_ (done_of HT_.out (by kernel_rfl)) ?_
      have hcz119_0 : w117.cell? ⟨gb184, 0, none⟩ = some (.int .i64 t178) := (blk_cell BK184.out 0).trans rfl
      have hcz119_1 : w117.cell? ⟨gb184, 1, none⟩ = some (.int .i64 t179) := (blk_cell BK184.out 1).trans rfl
      have hcz119_2 : w117.cell? ⟨gb184, 2, none⟩ = some (.int .i64 t180) := (blk_cell BK184.out 2).trans rfl
      have hfz119_0 := blk_frozen BK184.out 0
      have hfz119_1 := blk_frozen BK184.out 1
      have hfz119_2 := blk_frozen BK184.out 2
      obtain ⟨Ao120, co120, eo120⟩ := Kd.R_slice HO195.out
      subst eo120
      have p196 : 0 ≤ (t180 : Int) := of_decide_eq_true (by first | (with_reducible assumption) | assumption)
      have q196 : t180 < (y193.length : Int) := of_decide_eq_true (by first | (with_reducible assumption) | assumption)
      obtain ⟨ad196, e196, hx196_0⟩ := Kd.at_int (Kd.R_reads' HO195.out).2.2 t180 p196 q196
      cases e196
      replace p196 := eq_true p196
      replace q196 := eq_true q196
      try go_wp2
      go_ret
      exact ⟨by first | rfl | (simp [errW_none, errW_some] <;> rfl) | (simp [*, errW_none, errW_some] <;> rfl), by repeat (first | (with_reducible first | exact HB.out | apply below_alloc | apply pw_below_drewN | apply below_drew1 | refine below_set ?_ GE168.out | refine below_set ?_ GE173.out | refine below_set ?_ GE184.out | refine below_set ?_ GE185.out) | exact HB.out)⟩

/-- The pure statement of windrowlaw06_LayoutApart. -/
def windrowlaw06_LayoutApart.Pure : Prop := ∀ (a0_0 : Int) (a0_1 : Int) (a0_2 : Int) (a0_3 : Int) (a0_4 : Int), (Lit.int .i64 a0_0).wf = true → (Lit.int .i64 a0_1).wf = true → (Lit.int .i64 a0_2).wf = true → (Lit.int .i64 a0_3).wf = true → (Lit.int .i64 a0_4).wf = true → ∃ k, windrowlaw06_LayoutApart.f k a0_0 a0_1 a0_2 a0_3 a0_4 = some true
theorem windrowlaw06_LayoutApart.walk (P : windrowlaw06_LayoutApart.Pure) (a0_0 : Int) (a0_1 : Int) (a0_2 : Int) (a0_3 : Int) (a0_4 : Int) (w : World) (w0_0 : (Lit.int .i64 a0_0).wf = true) (w0_1 : (Lit.int .i64 a0_1).wf = true) (w0_2 : (Lit.int .i64 a0_2).wf = true) (w0_3 : (Lit.int .i64 a0_3).wf = true) (w0_4 : (Lit.int .i64 a0_4).wf = true) :
    Calls Try.prog 7 #[.agg #[.int .i64 a0_0, .int .i64 a0_1, .int .i64 a0_2, .int .i64 a0_3, .int .i64 a0_4]] w fun e w' => e = .returned (.bool true) ∧ Below w.heap.size w w' := by
  obtain ⟨k, h⟩ := P a0_0 a0_1 a0_2 a0_3 a0_4 w0_0 w0_1 w0_2 w0_3 w0_4
  refine (windrowlaw06_LayoutApart.calls k a0_0 a0_1 a0_2 a0_3 a0_4 true w ⟨rfl⟩ h).mono ?_
  rintro e w' ⟨rfl, hd⟩
  exact ⟨rfl, hd⟩

end Go.Proofs.Ytmbgfmdmihmgdaa.PAll

/- HeaderUnlike, walked. -/
import Derived.Test.YtjoejpkompaplaaHdC
import Derived.Test.YtjoejpkompaplaaRg
import Derived.Deep.Cut
import Derived.Deep.DeepCutAuto
namespace Go.Proofs.Ytjoejpkompaplaa.Hu
open Go Go.RowKit Go.Proofs.Ytjoejpkompaplaa.Hp
open Go.Proofs.YtjoejpkompaplaaW.PrintWords Go.Proofs.YtjoejpkompaplaaW.PrintLast Go.Proofs.Ytjoejpkompaplaa.Hd Go.Proofs.Ytjoejpkompaplaa.PAll
set_option linter.unusedVariables false
set_option linter.unusedSimpArgs false

theorem head_inj {c k l c' k' l' : Int} (h : headP c k l) (h' : headP c' k' l') : (headW c k l == headW c' k' l') = (c == c' && (k == k' && (l == l'))) := by
  rw [Bool.eq_iff_iff]
  simp only [beq_iff_eq, Bool.and_eq_true]
  unfold headW
  unfold headP at h h'
  omega

theorem entry_inj {k c s o y k' c' s' o' y' : Int} (h : entryP k c s o y) (h' : entryP k' c' s' o' y') : (entryW k c s o y == entryW k' c' s' o' y') = (k == k' && (c == c' && (s == s' && (o == o' && (y == y'))))) := by
  have b1 : 0 ≤ k ∧ k < 4 ∧ 0 ≤ c ∧ c < 16 ∧ 0 ≤ s ∧ s < 4 ∧ 0 ≤ o ∧ o < 16 ∧ 0 ≤ y ∧ y < 4294967296 := by unfold entryP at h; omega
  have b2 : 0 ≤ k' ∧ k' < 4 ∧ 0 ≤ c' ∧ c' < 16 ∧ 0 ≤ s' ∧ s' < 4 ∧ 0 ≤ o' ∧ o' < 16 ∧ 0 ≤ y' ∧ y' < 4294967296 := by unfold entryP at h'; omega
  clear h h'
  rw [Bool.eq_iff_iff]
  simp only [beq_iff_eq, Bool.and_eq_true]
  unfold entryW
  omega

theorem new_at2 (w : World) (x : Obj) {n : Nat} (hn : w.heap.size = n) : (w.alloc x).heap[n]? = some x := by
  subst hn
  exact Hp.blk_new w x
theorem heap5 (w : World) (o0 o1 o2 o3 o4 : Obj) :
    (((((w.alloc o0).alloc o1).alloc o2).alloc o3).alloc o4).drew.heap[w.heap.size]? = some o0 ∧ (((((w.alloc o0).alloc o1).alloc o2).alloc o3).alloc o4).drew.heap[w.heap.size + 1]? = some o1 ∧
    (((((w.alloc o0).alloc o1).alloc o2).alloc o3).alloc o4).drew.heap[w.heap.size + 1 + 1]? = some o2 ∧ (((((w.alloc o0).alloc o1).alloc o2).alloc o3).alloc o4).drew.heap[w.heap.size + 1 + 1 + 1]? = some o3 ∧
    (((((w.alloc o0).alloc o1).alloc o2).alloc o3).alloc o4).drew.heap[w.heap.size + 1 + 1 + 1 + 1]? = some o4 := by
  refine ⟨Hp.blk_alloc (Hp.blk_alloc (Hp.blk_alloc (Hp.blk_alloc (Hp.blk_new w o0) _) _) _) _, Hp.blk_alloc (Hp.blk_alloc (Hp.blk_alloc (new_at2 _ _ (by simp)) _) _) _, Hp.blk_alloc (Hp.blk_alloc (new_at2 _ _ (by simp)) _) _, Hp.blk_alloc (new_at2 _ _ (by simp)) _, new_at2 _ _ (by simp)⟩
theorem heap5b (w : World) (o0 o1 o2 o3 o4 : Obj) : Below w.heap.size w (((((w.alloc o0).alloc o1).alloc o2).alloc o3).alloc o4).drew := by
  have h := (((((Below.refl w.heap.size w).alloc (Nat.le_refl _) o0).alloc (by simp) o1).alloc (by simp; omega) o2).alloc (by simp; omega) o3).alloc (by simp; omega) o4
  exact h.drew
theorem new_at {w : World} {k : Nat} {o : Obj} (h : w.heap[k]? = some o) (x : Obj) {n : Nat} (hn : w.heap.size = n) : (w.alloc x).heap[n]? = some x := by
  subst hn
  exact Hp.blk_new w x
set_option maxHeartbeats 4000000 in
set_option maxRecDepth 100000 in
theorem unlike (a0 a1 a2 a3 a4 a5 a6 a7 a8 a9 a10 a11 a12 a13 a14 a15 v1 e1 v2 e2 v3 e3 v4 e4 : Int) (w : World)
    (H1 : ∀ w, Calls Try.prog 9 #[.agg #[.int .i64 a0, .int .i64 a1, .int .i64 a2]] w fun e w' => e = .returned (.tuple #[.int .u64 v1, .int .i64 e1]) ∧ Below w.heap.size w w')
    (H2 : ∀ w, Calls Try.prog 9 #[.agg #[.int .i64 a3, .int .i64 a4, .int .i64 a5]] w fun e w' => e = .returned (.tuple #[.int .u64 v2, .int .i64 e2]) ∧ Below w.heap.size w w')
    (H3 : ∀ w, Calls Try.prog 11 #[.agg #[.int .i64 a6, .int .i64 a7, .int .i64 a8, .int .i64 a9, .int .i64 a10]] w fun e w' => e = .returned (.tuple #[.int .u64 v3, .int .i64 e3]) ∧ Below w.heap.size w w')
    (H4 : ∀ w, Calls Try.prog 11 #[.agg #[.int .i64 a11, .int .i64 a12, .int .i64 a13, .int .i64 a14, .int .i64 a15]] w fun e w' => e = .returned (.tuple #[.int .u64 v4, .int .i64 e4]) ∧ Below w.heap.size w w')
    (H5 : ∀ w, Calls Try.prog 10 #[] w fun e w' => e = .returned (.bool true) ∧ Below w.heap.size w w')
    (P1 : e1 = 0 → e2 = 0 → (v1 = v2 ↔ (a0 = a3 ∧ a1 = a4 ∧ a2 = a5)))
    (P2 : e3 = 0 → e4 = 0 → (v3 = v4 ↔ (a6 = a11 ∧ a7 = a12 ∧ a8 = a13 ∧ a9 = a14 ∧ a10 = a15))) :
    Calls Try.prog 3 #[.agg #[.int .i64 a0, .int .i64 a1, .int .i64 a2, .int .i64 a3, .int .i64 a4, .int .i64 a5, .int .i64 a6, .int .i64 a7, .int .i64 a8, .int .i64 a9, .int .i64 a10, .int .i64 a11, .int .i64 a12, .int .i64 a13, .int .i64 a14, .int .i64 a15]] w fun e w' => e = .returned (.bool true) ∧ Below w.heap.size w w' := by
  have K1 := Lib.hid H1
  have K2 := Lib.hid H2
  have K3 := Lib.hid H3
  have K4 := Lib.hid H4
  have K5 := Lib.hid H5
  have Q1 := Lib.hid P1
  have Q2 := Lib.hid P2
  clear H1 H2 H3 H4 H5 P1 P2
  go_enter Try.func3, Try.ntmps3
  go_upto_region 1 with (fail)
  go_cut [3, 4, 5, 6] from 11 to 18 (fun v3 v4 v5 v6 wx => ∃ b3 b4 b5 b6 : Nat, v3 = .pointer (some ⟨b3, 0, none⟩) ∧ v4 = .pointer (some ⟨b4, 0, none⟩) ∧ v5 = .pointer (some ⟨b5, 0, none⟩) ∧ v6 = .pointer (some ⟨b6, 0, none⟩) ∧ Hid (wx.heap[b3]? = some (.cells #[.int .i64 a0, .int .i64 a1, .int .i64 a2] 23 (0, 0))) ∧ Hid (wx.heap[b4]? = some (.cells #[.int .i64 a3, .int .i64 a4, .int .i64 a5] 23 (0, 0))) ∧ Hid (wx.heap[b5]? = some (.cells #[.int .i64 a6, .int .i64 a7, .int .i64 a8, .int .i64 a9, .int .i64 a10] 25 (0, 0))) ∧ Hid (wx.heap[b6]? = some (.cells #[.int .i64 a11, .int .i64 a12, .int .i64 a13, .int .i64 a14, .int .i64 a15] 25 (0, 0))) ∧ Hid (Below w.heap.size w wx))
  case first =>
    have hn := Hp.blk_new w (.cells #[.int .i64 a0, .int .i64 a1, .int .i64 a2, .int .i64 a3, .int .i64 a4, .int .i64 a5, .int .i64 a6, .int .i64 a7, .int .i64 a8, .int .i64 a9, .int .i64 a10, .int .i64 a11, .int .i64 a12, .int .i64 a13, .int .i64 a14, .int .i64 a15] 27)
    refine Rg.Upto.start (fun w' => w'.heap[w.heap.size]? = some (.cells #[.int .i64 a0, .int .i64 a1, .int .i64 a2, .int .i64 a3, .int .i64 a4, .int .i64 a5, .int .i64 a6, .int .i64 a7, .int .i64 a8, .int .i64 a9, .int .i64 a10, .int .i64 a11, .int .i64 a12, .int .i64 a13, .int .i64 a14, .int .i64 a15] 27 (0, 0))) 1000 (by kernel_rfl) hn (fun HS => ?_)
    have HSC := HS
    clear HS hn
    refine Rg.Upto.takeA (i := 0) (v := ?_) rfl (by kernel_rfl) (by kernel_rfl) (by kernel_rfl) (of_decide_eq_true (by kernel_rfl)) (fun _ _ _ h => h) (by rfl) (fun w5 hS5 => ?_) HSC ?_
    rotate_left
    · clear hS5
      go_simp
      try rfl
    try simp only [Act.put, List.setIfInBounds_toArray, List.set_cons_zero, List.set_cons_succ]
    refine Rg.Upto.takeA (i := 1) (v := ?_) rfl (by kernel_rfl) (by kernel_rfl) (by kernel_rfl) (of_decide_eq_true (by kernel_rfl)) (fun _ _ _ h => h) (by rfl) (fun w5 hS5 => ?_) HSC ?_
    rotate_left
    · have c0 := (Hp.blk_cell hS5 0 rfl).1
      have c1 := (Hp.blk_cell hS5 1 rfl).1
      have c2 := (Hp.blk_cell hS5 2 rfl).1
      clear hS5
      go_simp
      try rfl
    try simp only [Act.put, List.setIfInBounds_toArray, List.set_cons_zero, List.set_cons_succ]
    refine Rg.Upto.takeA (i := 2) (v := ?_) rfl (by kernel_rfl) (by kernel_rfl) (by kernel_rfl) (of_decide_eq_true (by kernel_rfl)) (fun _ _ _ h => h) (by rfl) (fun w5 hS5 => ?_) HSC ?_
    rotate_left
    · clear hS5
      go_simp
      try rfl
    try simp only [Act.put, List.setIfInBounds_toArray, List.set_cons_zero, List.set_cons_succ]
    refine Rg.Upto.takeA (i := 3) (v := ?_) rfl (by kernel_rfl) (by kernel_rfl) (by kernel_rfl) (of_decide_eq_true (by kernel_rfl)) (fun _ _ _ h => h) (by rfl) (fun w5 hS5 => ?_) HSC ?_
    rotate_left
    · have c3 := (Hp.blk_cell hS5 3 rfl).1
      have c4 := (Hp.blk_cell hS5 4 rfl).1
      have c5 := (Hp.blk_cell hS5 5 rfl).1
      clear hS5
      go_simp
      try rfl
    try simp only [Act.put, List.setIfInBounds_toArray, List.set_cons_zero, List.set_cons_succ]
    refine Rg.Upto.takeA (i := 4) (v := ?_) rfl (by kernel_rfl) (by kernel_rfl) (by kernel_rfl) (of_decide_eq_true (by kernel_rfl)) (fun _ _ _ h => h) (by rfl) (fun w5 hS5 => ?_) HSC ?_
    rotate_left
    · clear hS5
      go_simp
      try rfl
    try simp only [Act.put, List.setIfInBounds_toArray, List.set_cons_zero, List.set_cons_succ]
    refine Rg.Upto.takeA (i := 5) (v := ?_) rfl (by kernel_rfl) (by kernel_rfl) (by kernel_rfl) (of_decide_eq_true (by kernel_rfl)) (fun _ _ _ h => h) (by rfl) (fun w5 hS5 => ?_) HSC ?_
    rotate_left
    · have c6 := (Hp.blk_cell hS5 6 rfl).1
      have c7 := (Hp.blk_cell hS5 7 rfl).1
      have c8 := (Hp.blk_cell hS5 8 rfl).1
      have c9 := (Hp.blk_cell hS5 9 rfl).1
      have c10 := (Hp.blk_cell hS5 10 rfl).1
      clear hS5
      go_simp
      try rfl
    try simp only [Act.put, List.setIfInBounds_toArray, List.set_cons_zero, List.set_cons_succ]
    refine Rg.Upto.takeA (i := 6) (v := ?_) rfl (by kernel_rfl) (by kernel_rfl) (by kernel_rfl) (of_decide_eq_true (by kernel_rfl)) (fun _ _ _ h => h) (by rfl) (fun w5 hS5 => ?_) HSC ?_
    rotate_left
    · clear hS5
      go_simp
      try rfl
    try simp only [Act.put, List.setIfInBounds_toArray, List.set_cons_zero, List.set_cons_succ]
    refine Rg.Upto.takeA (i := 7) (v := ?_) rfl (by kernel_rfl) (by kernel_rfl) (by kernel_rfl) (of_decide_eq_true (by kernel_rfl)) (fun _ _ _ h => h) (by rfl) (fun w5 hS5 => ?_) HSC ?_
    rotate_left
    · have c11 := (Hp.blk_cell hS5 11 rfl).1
      have c12 := (Hp.blk_cell hS5 12 rfl).1
      have c13 := (Hp.blk_cell hS5 13 rfl).1
      have c14 := (Hp.blk_cell hS5 14 rfl).1
      have c15 := (Hp.blk_cell hS5 15 rfl).1
      clear hS5
      go_simp
      try rfl
    try simp only [Act.put, List.setIfInBounds_toArray, List.set_cons_zero, List.set_cons_succ]
    refine Rg.Upto.cases (L := [8, 9, 10, 11]) (by kernel_rfl) (by simp) (fun i hi => ?_)
    simp only [List.mem_cons, List.not_mem_nil, or_false] at hi
    rcases hi with rfl | rfl | rfl | rfl
    · refine ⟨_, rfl, rfl, fun KK hK => ?_⟩
      go_simp
      have HSC2 := Hp.blk_alloc HSC (.cells #[.int .i64 0, .int .i64 0, .int .i64 0] 23)
      have B3 := new_at HSC (.cells #[.int .i64 0, .int .i64 0, .int .i64 0] 23) (n := w.heap.size + 1) (by simp)
      refine hK.out _ _ HSC2 ?_
      clear hK KK HSC
      have HSC := HSC2
      clear HSC2
      try simp only [Act.put, List.setIfInBounds_toArray, List.set_cons_zero, List.set_cons_succ]
      refine Rg.Upto.cases (L := [9, 10, 11]) (by kernel_rfl) (by simp) (fun i hi => ?_)
      simp only [List.mem_cons, List.not_mem_nil, or_false] at hi
      rcases hi with rfl | rfl | rfl
      · refine ⟨_, rfl, rfl, fun KK hK => ?_⟩
        go_simp
        have HSC2 := Hp.blk_alloc HSC (.cells #[.int .i64 0, .int .i64 0, .int .i64 0] 23)
        have B4 := new_at HSC (.cells #[.int .i64 0, .int .i64 0, .int .i64 0] 23) (n := w.heap.size + 2) (by simp)
        replace B3 := Hp.blk_alloc B3 (.cells #[.int .i64 0, .int .i64 0, .int .i64 0] 23)
        refine hK.out _ _ HSC2 ?_
        clear hK KK HSC
        have HSC := HSC2
        clear HSC2
        try simp only [Act.put, List.setIfInBounds_toArray, List.set_cons_zero, List.set_cons_succ]
        refine Rg.Upto.cases (L := [10, 11]) (by kernel_rfl) (by simp) (fun i hi => ?_)
        simp only [List.mem_cons, List.not_mem_nil, or_false] at hi
        rcases hi with rfl | rfl
        · refine ⟨_, rfl, rfl, fun KK hK => ?_⟩
          go_simp
          have HSC2 := Hp.blk_alloc HSC (.cells #[.int .i64 0, .int .i64 0, .int .i64 0, .int .i64 0, .int .i64 0] 25)
          have B5 := new_at HSC (.cells #[.int .i64 0, .int .i64 0, .int .i64 0, .int .i64 0, .int .i64 0] 25) (n := w.heap.size + 3) (by simp)
          replace B3 := Hp.blk_alloc B3 (.cells #[.int .i64 0, .int .i64 0, .int .i64 0, .int .i64 0, .int .i64 0] 25)
          replace B4 := Hp.blk_alloc B4 (.cells #[.int .i64 0, .int .i64 0, .int .i64 0, .int .i64 0, .int .i64 0] 25)
          refine hK.out _ _ HSC2 ?_
          clear hK KK HSC
          have HSC := HSC2
          clear HSC2
          try simp only [Act.put, List.setIfInBounds_toArray, List.set_cons_zero, List.set_cons_succ]
          refine Rg.Upto.cases (L := [11]) (by kernel_rfl) (by simp) (fun i hi => ?_)
          simp only [List.mem_cons, List.not_mem_nil, or_false] at hi
          subst hi
          · refine ⟨_, rfl, rfl, fun KK hK => ?_⟩
            go_simp
            have HSC2 := Hp.blk_alloc HSC (.cells #[.int .i64 0, .int .i64 0, .int .i64 0, .int .i64 0, .int .i64 0] 25)
            have B6 := new_at HSC (.cells #[.int .i64 0, .int .i64 0, .int .i64 0, .int .i64 0, .int .i64 0] 25) (n := w.heap.size + 4) (by simp)
            replace B3 := Hp.blk_alloc B3 (.cells #[.int .i64 0, .int .i64 0, .int .i64 0, .int .i64 0, .int .i64 0] 25)
            replace B4 := Hp.blk_alloc B4 (.cells #[.int .i64 0, .int .i64 0, .int .i64 0, .int .i64 0, .int .i64 0] 25)
            replace B5 := Hp.blk_alloc B5 (.cells #[.int .i64 0, .int .i64 0, .int .i64 0, .int .i64 0, .int .i64 0] 25)
            refine hK.out _ _ HSC2 ?_
            clear hK KK HSC
            have HSC := HSC2
            clear HSC2
            try simp only [Act.put, List.setIfInBounds_toArray, List.set_cons_zero, List.set_cons_succ]
            refine Rg.Upto.one (i := 12) rfl (by kernel_rfl) (by rfl) (fun KK hK => ?_)
            go_simp
            refine hK.out _ _ (heap5 w _ _ _ _ _).1 ?_
            clear hK KK
            try simp only [Act.put, List.setIfInBounds_toArray, List.set_cons_zero, List.set_cons_succ]
            refine Rg.Upto.one (i := 13) rfl (by kernel_rfl) (by rfl) (fun KK hK => ?_)
            go_simp
            refine hK.out _ _ (heap5 w _ _ _ _ _).1 ?_
            clear hK KK
            try simp only [Act.put, List.setIfInBounds_toArray, List.set_cons_zero, List.set_cons_succ]
            refine Rg.Upto.one (i := 14) rfl (by kernel_rfl) (by rfl) (fun KK hK => ?_)
            go_simp
            refine hK.out _ _ (heap5 w _ _ _ _ _).1 ?_
            clear hK KK
            try simp only [Act.put, List.setIfInBounds_toArray, List.set_cons_zero, List.set_cons_succ]
            refine Rg.Upto.one (i := 15) rfl (by kernel_rfl) (by rfl) (fun KK hK => ?_)
            go_simp
            refine hK.out _ _ (heap5 w _ _ _ _ _).1 ?_
            clear hK KK
            try simp only [Act.put, List.setIfInBounds_toArray, List.set_cons_zero, List.set_cons_succ]
            refine Rg.Upto.done (by kernel_rfl) ?_
            clear HSC B3 B4 B5 B6
            go_wp2_with (fail)
            go_meet
            have hh := heap5 w (.cells #[.int .i64 a0, .int .i64 a1, .int .i64 a2, .int .i64 a3, .int .i64 a4, .int .i64 a5, .int .i64 a6, .int .i64 a7, .int .i64 a8, .int .i64 a9, .int .i64 a10, .int .i64 a11, .int .i64 a12, .int .i64 a13, .int .i64 a14, .int .i64 a15] 27) (.cells #[.int .i64 a0, .int .i64 a1, .int .i64 a2] 23) (.cells #[.int .i64 a3, .int .i64 a4, .int .i64 a5] 23) (.cells #[.int .i64 a6, .int .i64 a7, .int .i64 a8, .int .i64 a9, .int .i64 a10] 25) (.cells #[.int .i64 a11, .int .i64 a12, .int .i64 a13, .int .i64 a14, .int .i64 a15] 25)
            exact ⟨w.heap.size + 1, w.heap.size + 1 + 1, w.heap.size + 1 + 1 + 1, w.heap.size + 1 + 1 + 1 + 1, rfl, rfl, rfl, rfl, Lib.hid hh.2.1, Lib.hid hh.2.2.1, Lib.hid hh.2.2.2.1, Lib.hid hh.2.2.2.2, Lib.hid (heap5b w _ _ _ _ _)⟩
        · refine ⟨_, rfl, rfl, fun KK hK => ?_⟩
          go_simp
          have HSC2 := Hp.blk_alloc HSC (.cells #[.int .i64 0, .int .i64 0, .int .i64 0, .int .i64 0, .int .i64 0] 25)
          have B6 := new_at HSC (.cells #[.int .i64 0, .int .i64 0, .int .i64 0, .int .i64 0, .int .i64 0] 25) (n := w.heap.size + 3) (by simp)
          replace B3 := Hp.blk_alloc B3 (.cells #[.int .i64 0, .int .i64 0, .int .i64 0, .int .i64 0, .int .i64 0] 25)
          replace B4 := Hp.blk_alloc B4 (.cells #[.int .i64 0, .int .i64 0, .int .i64 0, .int .i64 0, .int .i64 0] 25)
          refine hK.out _ _ HSC2 ?_
          clear hK KK HSC
          have HSC := HSC2
          clear HSC2
          try simp only [Act.put, List.setIfInBounds_toArray, List.set_cons_zero, List.set_cons_succ]
          refine Rg.Upto.cases (L := [10]) (by kernel_rfl) (by simp) (fun i hi => ?_)
          simp only [List.mem_cons, List.not_mem_nil, or_false] at hi
          subst hi
          · refine ⟨_, rfl, rfl, fun KK hK => ?_⟩
            go_simp
            have HSC2 := Hp.blk_alloc HSC (.cells #[.int .i64 0, .int .i64 0, .int .i64 0, .int .i64 0, .int .i64 0] 25)
            have B5 := new_at HSC (.cells #[.int .i64 0, .int .i64 0, .int .i64 0, .int .i64 0, .int .i64 0] 25) (n := w.heap.size + 4) (by simp)
            replace B3 := Hp.blk_alloc B3 (.cells #[.int .i64 0, .int .i64 0, .int .i64 0, .int .i64 0, .int .i64 0] 25)
            replace B4 := Hp.blk_alloc B4 (.cells #[.int .i64 0, .int .i64 0, .int .i64 0, .int .i64 0, .int .i64 0] 25)
            replace B6 := Hp.blk_alloc B6 (.cells #[.int .i64 0, .int .i64 0, .int .i64 0, .int .i64 0, .int .i64 0] 25)
            refine hK.out _ _ HSC2 ?_
            clear hK KK HSC
            have HSC := HSC2
            clear HSC2
            try simp only [Act.put, List.setIfInBounds_toArray, List.set_cons_zero, List.set_cons_succ]
            refine Rg.Upto.one (i := 12) rfl (by kernel_rfl) (by rfl) (fun KK hK => ?_)
            go_simp
            refine hK.out _ _ (heap5 w _ _ _ _ _).1 ?_
            clear hK KK
            try simp only [Act.put, List.setIfInBounds_toArray, List.set_cons_zero, List.set_cons_succ]
            refine Rg.Upto.one (i := 13) rfl (by kernel_rfl) (by rfl) (fun KK hK => ?_)
            go_simp
            refine hK.out _ _ (heap5 w _ _ _ _ _).1 ?_
            clear hK KK
            try simp only [Act.put, List.setIfInBounds_toArray, List.set_cons_zero, List.set_cons_succ]
            refine Rg.Upto.one (i := 14) rfl (by kernel_rfl) (by rfl) (fun KK hK => ?_)
            go_simp
            refine hK.out _ _ (heap5 w _ _ _ _ _).1 ?_
            clear hK KK
            try simp only [Act.put, List.setIfInBounds_toArray, List.set_cons_zero, List.set_cons_succ]
            refine Rg.Upto.one (i := 15) rfl (by kernel_rfl) (by rfl) (fun KK hK => ?_)
            go_simp
            refine hK.out _ _ (heap5 w _ _ _ _ _).1 ?_
            clear hK KK
            try simp only [Act.put, List.setIfInBounds_toArray, List.set_cons_zero, List.set_cons_succ]
            refine Rg.Upto.done (by kernel_rfl) ?_
            clear HSC B3 B4 B5 B6
            go_wp2_with (fail)
            go_meet
            have hh := heap5 w (.cells #[.int .i64 a0, .int .i64 a1, .int .i64 a2, .int .i64 a3, .int .i64 a4, .int .i64 a5, .int .i64 a6, .int .i64 a7, .int .i64 a8, .int .i64 a9, .int .i64 a10, .int .i64 a11, .int .i64 a12, .int .i64 a13, .int .i64 a14, .int .i64 a15] 27) (.cells #[.int .i64 a0, .int .i64 a1, .int .i64 a2] 23) (.cells #[.int .i64 a3, .int .i64 a4, .int .i64 a5] 23) (.cells #[.int .i64 a11, .int .i64 a12, .int .i64 a13, .int .i64 a14, .int .i64 a15] 25) (.cells #[.int .i64 a6, .int .i64 a7, .int .i64 a8, .int .i64 a9, .int .i64 a10] 25)
            exact ⟨w.heap.size + 1, w.heap.size + 1 + 1, w.heap.size + 1 + 1 + 1 + 1, w.heap.size + 1 + 1 + 1, rfl, rfl, rfl, rfl, Lib.hid hh.2.1, Lib.hid hh.2.2.1, Lib.hid hh.2.2.2.2, Lib.hid hh.2.2.2.1, Lib.hid (heap5b w _ _ _ _ _)⟩
      · refine ⟨_, rfl, rfl, fun KK hK => ?_⟩
        go_simp
        have HSC2 := Hp.blk_alloc HSC (.cells #[.int .i64 0, .int .i64 0, .int .i64 0, .int .i64 0, .int .i64 0] 25)
        have B5 := new_at HSC (.cells #[.int .i64 0, .int .i64 0, .int .i64 0, .int .i64 0, .int .i64 0] 25) (n := w.heap.size + 2) (by simp)
        replace B3 := Hp.blk_alloc B3 (.cells #[.int .i64 0, .int .i64 0, .int .i64 0, .int .i64 0, .int .i64 0] 25)
        refine hK.out _ _ HSC2 ?_
        clear hK KK HSC
        have HSC := HSC2
        clear HSC2
        try simp only [Act.put, List.setIfInBounds_toArray, List.set_cons_zero, List.set_cons_succ]
        refine Rg.Upto.cases (L := [9, 11]) (by kernel_rfl) (by simp) (fun i hi => ?_)
        simp only [List.mem_cons, List.not_mem_nil, or_false] at hi
        rcases hi with rfl | rfl
        · refine ⟨_, rfl, rfl, fun KK hK => ?_⟩
          go_simp
          have HSC2 := Hp.blk_alloc HSC (.cells #[.int .i64 0, .int .i64 0, .int .i64 0] 23)
          have B4 := new_at HSC (.cells #[.int .i64 0, .int .i64 0, .int .i64 0] 23) (n := w.heap.size + 3) (by simp)
          replace B3 := Hp.blk_alloc B3 (.cells #[.int .i64 0, .int .i64 0, .int .i64 0] 23)
          replace B5 := Hp.blk_alloc B5 (.cells #[.int .i64 0, .int .i64 0, .int .i64 0] 23)
          refine hK.out _ _ HSC2 ?_
          clear hK KK HSC
          have HSC := HSC2
          clear HSC2
          try simp only [Act.put, List.setIfInBounds_toArray, List.set_cons_zero, List.set_cons_succ]
          refine Rg.Upto.cases (L := [11]) (by kernel_rfl) (by simp) (fun i hi => ?_)
          simp only [List.mem_cons, List.not_mem_nil, or_false] at hi
          subst hi
          · refine ⟨_, rfl, rfl, fun KK hK => ?_⟩
            go_simp
            have HSC2 := Hp.blk_alloc HSC (.cells #[.int .i64 0, .int .i64 0, .int .i64 0, .int .i64 0, .int .i64 0] 25)
            have B6 := new_at HSC (.cells #[.int .i64 0, .int .i64 0, .int .i64 0, .int .i64 0, .int .i64 0] 25) (n := w.heap.size + 4) (by simp)
            replace B3 := Hp.blk_alloc B3 (.cells #[.int .i64 0, .int .i64 0, .int .i64 0, .int .i64 0, .int .i64 0] 25)
            replace B5 := Hp.blk_alloc B5 (.cells #[.int .i64 0, .int .i64 0, .int .i64 0, .int .i64 0, .int .i64 0] 25)
            replace B4 := Hp.blk_alloc B4 (.cells #[.int .i64 0, .int .i64 0, .int .i64 0, .int .i64 0, .int .i64 0] 25)
            refine hK.out _ _ HSC2 ?_
            clear hK KK HSC
            have HSC := HSC2
            clear HSC2
            try simp only [Act.put, List.setIfInBounds_toArray, List.set_cons_zero, List.set_cons_succ]
            refine Rg.Upto.one (i := 12) rfl (by kernel_rfl) (by rfl) (fun KK hK => ?_)
            go_simp
            refine hK.out _ _ (heap5 w _ _ _ _ _).1 ?_
            clear hK KK
            try simp only [Act.put, List.setIfInBounds_toArray, List.set_cons_zero, List.set_cons_succ]
            refine Rg.Upto.one (i := 13) rfl (by kernel_rfl) (by rfl) (fun KK hK => ?_)
            go_simp
            refine hK.out _ _ (heap5 w _ _ _ _ _).1 ?_
            clear hK KK
            try simp only [Act.put, List.setIfInBounds_toArray, List.set_cons_zero, List.set_cons_succ]
            refine Rg.Upto.one (i := 14) rfl (by kernel_rfl) (by rfl) (fun KK hK => ?_)
            go_simp
            refine hK.out _ _ (heap5 w _ _ _ _ _).1 ?_
            clear hK KK
            try simp only [Act.put, List.setIfInBounds_toArray, List.set_cons_zero, List.set_cons_succ]
            refine Rg.Upto.one (i := 15) rfl (by kernel_rfl) (by rfl) (fun KK hK => ?_)
            go_simp
            refine hK.out _ _ (heap5 w _ _ _ _ _).1 ?_
            clear hK KK
            try simp only [Act.put, List.setIfInBounds_toArray, List.set_cons_zero, List.set_cons_succ]
            refine Rg.Upto.done (by kernel_rfl) ?_
            clear HSC B3 B4 B5 B6
            go_wp2_with (fail)
            go_meet
            have hh := heap5 w (.cells #[.int .i64 a0, .int .i64 a1, .int .i64 a2, .int .i64 a3, .int .i64 a4, .int .i64 a5, .int .i64 a6, .int .i64 a7, .int .i64 a8, .int .i64 a9, .int .i64 a10, .int .i64 a11, .int .i64 a12, .int .i64 a13, .int .i64 a14, .int .i64 a15] 27) (.cells #[.int .i64 a0, .int .i64 a1, .int .i64 a2] 23) (.cells #[.int .i64 a6, .int .i64 a7, .int .i64 a8, .int .i64 a9, .int .i64 a10] 25) (.cells #[.int .i64 a3, .int .i64 a4, .int .i64 a5] 23) (.cells #[.int .i64 a11, .int .i64 a12, .int .i64 a13, .int .i64 a14, .int .i64 a15] 25)
            exact ⟨w.heap.size + 1, w.heap.size + 1 + 1 + 1, w.heap.size + 1 + 1, w.heap.size + 1 + 1 + 1 + 1, rfl, rfl, rfl, rfl, Lib.hid hh.2.1, Lib.hid hh.2.2.2.1, Lib.hid hh.2.2.1, Lib.hid hh.2.2.2.2, Lib.hid (heap5b w _ _ _ _ _)⟩
        · refine ⟨_, rfl, rfl, fun KK hK => ?_⟩
          go_simp
          have HSC2 := Hp.blk_alloc HSC (.cells #[.int .i64 0, .int .i64 0, .int .i64 0, .int .i64 0, .int .i64 0] 25)
          have B6 := new_at HSC (.cells #[.int .i64 0, .int .i64 0, .int .i64 0, .int .i64 0, .int .i64 0] 25) (n := w.heap.size + 3) (by simp)
          replace B3 := Hp.blk_alloc B3 (.cells #[.int .i64 0, .int .i64 0, .int .i64 0, .int .i64 0, .int .i64 0] 25)
          replace B5 := Hp.blk_alloc B5 (.cells #[.int .i64 0, .int .i64 0, .int .i64 0, .int .i64 0, .int .i64 0] 25)
          refine hK.out _ _ HSC2 ?_
          clear hK KK HSC
          have HSC := HSC2
          clear HSC2
          try simp only [Act.put, List.setIfInBounds_toArray, List.set_cons_zero, List.set_cons_succ]
          refine Rg.Upto.cases (L := [9]) (by kernel_rfl) (by simp) (fun i hi => ?_)
          simp only [List.mem_cons, List.not_mem_nil, or_false] at hi
          subst hi
          · refine ⟨_, rfl, rfl, fun KK hK => ?_⟩
            go_simp
            have HSC2 := Hp.blk_alloc HSC (.cells #[.int .i64 0, .int .i64 0, .int .i64 0] 23)
            have B4 := new_at HSC (.cells #[.int .i64 0, .int .i64 0, .int .i64 0] 23) (n := w.heap.size + 4) (by simp)
            replace B3 := Hp.blk_alloc B3 (.cells #[.int .i64 0, .int .i64 0, .int .i64 0] 23)
            replace B5 := Hp.blk_alloc B5 (.cells #[.int .i64 0, .int .i64 0, .int .i64 0] 23)
            replace B6 := Hp.blk_alloc B6 (.cells #[.int .i64 0, .int .i64 0, .int .i64 0] 23)
            refine hK.out _ _ HSC2 ?_
            clear hK KK HSC
            have HSC := HSC2
            clear HSC2
            try simp only [Act.put, List.setIfInBounds_toArray, List.set_cons_zero, List.set_cons_succ]
            refine Rg.Upto.one (i := 12) rfl (by kernel_rfl) (by rfl) (fun KK hK => ?_)
            go_simp
            refine hK.out _ _ (heap5 w _ _ _ _ _).1 ?_
            clear hK KK
            try simp only [Act.put, List.setIfInBounds_toArray, List.set_cons_zero, List.set_cons_succ]
            refine Rg.Upto.one (i := 13) rfl (by kernel_rfl) (by rfl) (fun KK hK => ?_)
            go_simp
            refine hK.out _ _ (heap5 w _ _ _ _ _).1 ?_
            clear hK KK
            try simp only [Act.put, List.setIfInBounds_toArray, List.set_cons_zero, List.set_cons_succ]
            refine Rg.Upto.one (i := 14) rfl (by kernel_rfl) (by rfl) (fun KK hK => ?_)
            go_simp
            refine hK.out _ _ (heap5 w _ _ _ _ _).1 ?_
            clear hK KK
            try simp only [Act.put, List.setIfInBounds_toArray, List.set_cons_zero, List.set_cons_succ]
            refine Rg.Upto.one (i := 15) rfl (by kernel_rfl) (by rfl) (fun KK hK => ?_)
            go_simp
            refine hK.out _ _ (heap5 w _ _ _ _ _).1 ?_
            clear hK KK
            try simp only [Act.put, List.setIfInBounds_toArray, List.set_cons_zero, List.set_cons_succ]
            refine Rg.Upto.done (by kernel_rfl) ?_
            clear HSC B3 B4 B5 B6
            go_wp2_with (fail)
            go_meet
            have hh := heap5 w (.cells #[.int .i64 a0, .int .i64 a1, .int .i64 a2, .int .i64 a3, .int .i64 a4, .int .i64 a5, .int .i64 a6, .int .i64 a7, .int .i64 a8, .int .i64 a9, .int .i64 a10, .int .i64 a11, .int .i64 a12, .int .i64 a13, .int .i64 a14, .int .i64 a15] 27) (.cells #[.int .i64 a0, .int .i64 a1, .int .i64 a2] 23) (.cells #[.int .i64 a6, .int .i64 a7, .int .i64 a8, .int .i64 a9, .int .i64 a10] 25) (.cells #[.int .i64 a11, .int .i64 a12, .int .i64 a13, .int .i64 a14, .int .i64 a15] 25) (.cells #[.int .i64 a3, .int .i64 a4, .int .i64 a5] 23)
            exact ⟨w.heap.size + 1, w.heap.size + 1 + 1 + 1 + 1, w.heap.size + 1 + 1, w.heap.size + 1 + 1 + 1, rfl, rfl, rfl, rfl, Lib.hid hh.2.1, Lib.hid hh.2.2.2.2, Lib.hid hh.2.2.1, Lib.hid hh.2.2.2.1, Lib.hid (heap5b w _ _ _ _ _)⟩
      · refine ⟨_, rfl, rfl, fun KK hK => ?_⟩
        go_simp
        have HSC2 := Hp.blk_alloc HSC (.cells #[.int .i64 0, .int .i64 0, .int .i64 0, .int .i64 0, .int .i64 0] 25)
        have B6 := new_at HSC (.cells #[.int .i64 0, .int .i64 0, .int .i64 0, .int .i64 0, .int .i64 0] 25) (n := w.heap.size + 2) (by simp)
        replace B3 := Hp.blk_alloc B3 (.cells #[.int .i64 0, .int .i64 0, .int .i64 0, .int .i64 0, .int .i64 0] 25)
        refine hK.out _ _ HSC2 ?_
        clear hK KK HSC
        have HSC := HSC2
        clear HSC2
        try simp only [Act.put, List.setIfInBounds_toArray, List.set_cons_zero, List.set_cons_succ]
        refine Rg.Upto.cases (L := [9, 10]) (by kernel_rfl) (by simp) (fun i hi => ?_)
        simp only [List.mem_cons, List.not_mem_nil, or_false] at hi
        rcases hi with rfl | rfl
        · refine ⟨_, rfl, rfl, fun KK hK => ?_⟩
          go_simp
          have HSC2 := Hp.blk_alloc HSC (.cells #[.int .i64 0, .int .i64 0, .int .i64 0] 23)
          have B4 := new_at HSC (.cells #[.int .i64 0, .int .i64 0, .int .i64 0] 23) (n := w.heap.size + 3) (by simp)
          replace B3 := Hp.blk_alloc B3 (.cells #[.int .i64 0, .int .i64 0, .int .i64 0] 23)
          replace B6 := Hp.blk_alloc B6 (.cells #[.int .i64 0, .int .i64 0, .int .i64 0] 23)
          refine hK.out _ _ HSC2 ?_
          clear hK KK HSC
          have HSC := HSC2
          clear HSC2
          try simp only [Act.put, List.setIfInBounds_toArray, List.set_cons_zero, List.set_cons_succ]
          refine Rg.Upto.cases (L := [10]) (by kernel_rfl) (by simp) (fun i hi => ?_)
          simp only [List.mem_cons, List.not_mem_nil, or_false] at hi
          subst hi
          · refine ⟨_, rfl, rfl, fun KK hK => ?_⟩
            go_simp
            have HSC2 := Hp.blk_alloc HSC (.cells #[.int .i64 0, .int .i64 0, .int .i64 0, .int .i64 0, .int .i64 0] 25)
            have B5 := new_at HSC (.cells #[.int .i64 0, .int .i64 0, .int .i64 0, .int .i64 0, .int .i64 0] 25) (n := w.heap.size + 4) (by simp)
            replace B3 := Hp.blk_alloc B3 (.cells #[.int .i64 0, .int .i64 0, .int .i64 0, .int .i64 0, .int .i64 0] 25)
            replace B6 := Hp.blk_alloc B6 (.cells #[.int .i64 0, .int .i64 0, .int .i64 0, .int .i64 0, .int .i64 0] 25)
            replace B4 := Hp.blk_alloc B4 (.cells #[.int .i64 0, .int .i64 0, .int .i64 0, .int .i64 0, .int .i64 0] 25)
            refine hK.out _ _ HSC2 ?_
            clear hK KK HSC
            have HSC := HSC2
            clear HSC2
            try simp only [Act.put, List.setIfInBounds_toArray, List.set_cons_zero, List.set_cons_succ]
            refine Rg.Upto.one (i := 12) rfl (by kernel_rfl) (by rfl) (fun KK hK => ?_)
            go_simp
            refine hK.out _ _ (heap5 w _ _ _ _ _).1 ?_
            clear hK KK
            try simp only [Act.put, List.setIfInBounds_toArray, List.set_cons_zero, List.set_cons_succ]
            refine Rg.Upto.one (i := 13) rfl (by kernel_rfl) (by rfl) (fun KK hK => ?_)
            go_simp
            refine hK.out _ _ (heap5 w _ _ _ _ _).1 ?_
            clear hK KK
            try simp only [Act.put, List.setIfInBounds_toArray, List.set_cons_zero, List.set_cons_succ]
            refine Rg.Upto.one (i := 14) rfl (by kernel_rfl) (by rfl) (fun KK hK => ?_)
            go_simp
            refine hK.out _ _ (heap5 w _ _ _ _ _).1 ?_
            clear hK KK
            try simp only [Act.put, List.setIfInBounds_toArray, List.set_cons_zero, List.set_cons_succ]
            refine Rg.Upto.one (i := 15) rfl (by kernel_rfl) (by rfl) (fun KK hK => ?_)
            go_simp
            refine hK.out _ _ (heap5 w _ _ _ _ _).1 ?_
            clear hK KK
            try simp only [Act.put, List.setIfInBounds_toArray, List.set_cons_zero, List.set_cons_succ]
            refine Rg.Upto.done (by kernel_rfl) ?_
            clear HSC B3 B4 B5 B6
            go_wp2_with (fail)
            go_meet
            have hh := heap5 w (.cells #[.int .i64 a0, .int .i64 a1, .int .i64 a2, .int .i64 a3, .int .i64 a4, .int .i64 a5, .int .i64 a6, .int .i64 a7, .int .i64 a8, .int .i64 a9, .int .i64 a10, .int .i64 a11, .int .i64 a12, .int .i64 a13, .int .i64 a14, .int .i64 a15] 27) (.cells #[.int .i64 a0, .int .i64 a1, .int .i64 a2] 23) (.cells #[.int .i64 a11, .int .i64 a12, .int .i64 a13, .int .i64 a14, .int .i64 a15] 25) (.cells #[.int .i64 a3, .int .i64 a4, .int .i64 a5] 23) (.cells #[.int .i64 a6, .int .i64 a7, .int .i64 a8, .int .i64 a9, .int .i64 a10] 25)
            exact ⟨w.heap.size + 1, w.heap.size + 1 + 1 + 1, w.heap.size + 1 + 1 + 1 + 1, w.heap.size + 1 + 1, rfl, rfl, rfl, rfl, Lib.hid hh.2.1, Lib.hid hh.2.2.2.1, Lib.hid hh.2.2.2.2, Lib.hid hh.2.2.1, Lib.hid (heap5b w _ _ _ _ _)⟩
        · refine ⟨_, rfl, rfl, fun KK hK => ?_⟩
          go_simp
          have HSC2 := Hp.blk_alloc HSC (.cells #[.int .i64 0, .int .i64 0, .int .i64 0, .int .i64 0, .int .i64 0] 25)
          have B5 := new_at HSC (.cells #[.int .i64 0, .int .i64 0, .int .i64 0, .int .i64 0, .int .i64 0] 25) (n := w.heap.size + 3) (by simp)
          replace B3 := Hp.blk_alloc B3 (.cells #[.int .i64 0, .int .i64 0, .int .i64 0, .int .i64 0, .int .i64 0] 25)
          replace B6 := Hp.blk_alloc B6 (.cells #[.int .i64 0, .int .i64 0, .int .i64 0, .int .i64 0, .int .i64 0] 25)
          refine hK.out _ _ HSC2 ?_
          clear hK KK HSC
          have HSC := HSC2
          clear HSC2
          try simp only [Act.put, List.setIfInBounds_toArray, List.set_cons_zero, List.set_cons_succ]
          refine Rg.Upto.cases (L := [9]) (by kernel_rfl) (by simp) (fun i hi => ?_)
          simp only [List.mem_cons, List.not_mem_nil, or_false] at hi
          subst hi
          · refine ⟨_, rfl, rfl, fun KK hK => ?_⟩
            go_simp
            have HSC2 := Hp.blk_alloc HSC (.cells #[.int .i64 0, .int .i64 0, .int .i64 0] 23)
            have B4 := new_at HSC (.cells #[.int .i64 0, .int .i64 0, .int .i64 0] 23) (n := w.heap.size + 4) (by simp)
            replace B3 := Hp.blk_alloc B3 (.cells #[.int .i64 0, .int .i64 0, .int .i64 0] 23)
            replace B6 := Hp.blk_alloc B6 (.cells #[.int .i64 0, .int .i64 0, .int .i64 0] 23)
            replace B5 := Hp.blk_alloc B5 (.cells #[.int .i64 0, .int .i64 0, .int .i64 0] 23)
            refine hK.out _ _ HSC2 ?_
            clear hK KK HSC
            have HSC := HSC2
            clear HSC2
            try simp only [Act.put, List.setIfInBounds_toArray, List.set_cons_zero, List.set_cons_succ]
            refine Rg.Upto.one (i := 12) rfl (by kernel_rfl) (by rfl) (fun KK hK => ?_)
            go_simp
            refine hK.out _ _ (heap5 w _ _ _ _ _).1 ?_
            clear hK KK
            try simp only [Act.put, List.setIfInBounds_toArray, List.set_cons_zero, List.set_cons_succ]
            refine Rg.Upto.one (i := 13) rfl (by kernel_rfl) (by rfl) (fun KK hK => ?_)
            go_simp
            refine hK.out _ _ (heap5 w _ _ _ _ _).1 ?_
            clear hK KK
            try simp only [Act.put, List.setIfInBounds_toArray, List.set_cons_zero, List.set_cons_succ]
            refine Rg.Upto.one (i := 14) rfl (by kernel_rfl) (by rfl) (fun KK hK => ?_)
            go_simp
            refine hK.out _ _ (heap5 w _ _ _ _ _).1 ?_
            clear hK KK
            try simp only [Act.put, List.setIfInBounds_toArray, List.set_cons_zero, List.set_cons_succ]
            refine Rg.Upto.one (i := 15) rfl (by kernel_rfl) (by rfl) (fun KK hK => ?_)
            go_simp
            refine hK.out _ _ (heap5 w _ _ _ _ _).1 ?_
            clear hK KK
            try simp only [Act.put, List.setIfInBounds_toArray, List.set_cons_zero, List.set_cons_succ]
            refine Rg.Upto.done (by kernel_rfl) ?_
            clear HSC B3 B4 B5 B6
            go_wp2_with (fail)
            go_meet
            have hh := heap5 w (.cells #[.int .i64 a0, .int .i64 a1, .int .i64 a2, .int .i64 a3, .int .i64 a4, .int .i64 a5, .int .i64 a6, .int .i64 a7, .int .i64 a8, .int .i64 a9, .int .i64 a10, .int .i64 a11, .int .i64 a12, .int .i64 a13, .int .i64 a14, .int .i64 a15] 27) (.cells #[.int .i64 a0, .int .i64 a1, .int .i64 a2] 23) (.cells #[.int .i64 a11, .int .i64 a12, .int .i64 a13, .int .i64 a14, .int .i64 a15] 25) (.cells #[.int .i64 a6, .int .i64 a7, .int .i64 a8, .int .i64 a9, .int .i64 a10] 25) (.cells #[.int .i64 a3, .int .i64 a4, .int .i64 a5] 23)
            exact ⟨w.heap.size + 1, w.heap.size + 1 + 1 + 1 + 1, w.heap.size + 1 + 1 + 1, w.heap.size + 1 + 1, rfl, rfl, rfl, rfl, Lib.hid hh.2.1, Lib.hid hh.2.2.2.2, Lib.hid hh.2.2.2.1, Lib.hid hh.2.2.1, Lib.hid (heap5b w _ _ _ _ _)⟩
    · refine ⟨_, rfl, rfl, fun KK hK => ?_⟩
      go_simp
      have HSC2 := Hp.blk_alloc HSC (.cells #[.int .i64 0, .int .i64 0, .int .i64 0] 23)
      have B4 := new_at HSC (.cells #[.int .i64 0, .int .i64 0, .int .i64 0] 23) (n := w.heap.size + 1) (by simp)
      refine hK.out _ _ HSC2 ?_
      clear hK KK HSC
      have HSC := HSC2
      clear HSC2
      try simp only [Act.put, List.setIfInBounds_toArray, List.set_cons_zero, List.set_cons_succ]
      refine Rg.Upto.cases (L := [8, 10, 11]) (by kernel_rfl) (by simp) (fun i hi => ?_)
      simp only [List.mem_cons, List.not_mem_nil, or_false] at hi
      rcases hi with rfl | rfl | rfl
      · refine ⟨_, rfl, rfl, fun KK hK => ?_⟩
        go_simp
        have HSC2 := Hp.blk_alloc HSC (.cells #[.int .i64 0, .int .i64 0, .int .i64 0] 23)
        have B3 := new_at HSC (.cells #[.int .i64 0, .int .i64 0, .int .i64 0] 23) (n := w.heap.size + 2) (by simp)
        replace B4 := Hp.blk_alloc B4 (.cells #[.int .i64 0, .int .i64 0, .int .i64 0] 23)
        refine hK.out _ _ HSC2 ?_
        clear hK KK HSC
        have HSC := HSC2
        clear HSC2
        try simp only [Act.put, List.setIfInBounds_toArray, List.set_cons_zero, List.set_cons_succ]
        refine Rg.Upto.cases (L := [10, 11]) (by kernel_rfl) (by simp) (fun i hi => ?_)
        simp only [List.mem_cons, List.not_mem_nil, or_false] at hi
        rcases hi with rfl | rfl
        · refine ⟨_, rfl, rfl, fun KK hK => ?_⟩
          go_simp
          have HSC2 := Hp.blk_alloc HSC (.cells #[.int .i64 0, .int .i64 0, .int .i64 0, .int .i64 0, .int .i64 0] 25)
          have B5 := new_at HSC (.cells #[.int .i64 0, .int .i64 0, .int .i64 0, .int .i64 0, .int .i64 0] 25) (n := w.heap.size + 3) (by simp)
          replace B4 := Hp.blk_alloc B4 (.cells #[.int .i64 0, .int .i64 0, .int .i64 0, .int .i64 0, .int .i64 0] 25)
          replace B3 := Hp.blk_alloc B3 (.cells #[.int .i64 0, .int .i64 0, .int .i64 0, .int .i64 0, .int .i64 0] 25)
          refine hK.out _ _ HSC2 ?_
          clear hK KK HSC
          have HSC := HSC2
          clear HSC2
          try simp only [Act.put, List.setIfInBounds_toArray, List.set_cons_zero, List.set_cons_succ]
          refine Rg.Upto.cases (L := [11]) (by kernel_rfl) (by simp) (fun i hi => ?_)
          simp only [List.mem_cons, List.not_mem_nil, or_false] at hi
          subst hi
          · refine ⟨_, rfl, rfl, fun KK hK => ?_⟩
            go_simp
            have HSC2 := Hp.blk_alloc HSC (.cells #[.int .i64 0, .int .i64 0, .int .i64 0, .int .i64 0, .int .i64 0] 25)
            have B6 := new_at HSC (.cells #[.int .i64 0, .int .i64 0, .int .i64 0, .int .i64 0, .int .i64 0] 25) (n := w.heap.size + 4) (by simp)
            replace B4 := Hp.blk_alloc B4 (.cells #[.int .i64 0, .int .i64 0, .int .i64 0, .int .i64 0, .int .i64 0] 25)
            replace B3 := Hp.blk_alloc B3 (.cells #[.int .i64 0, .int .i64 0, .int .i64 0, .int .i64 0, .int .i64 0] 25)
            replace B5 := Hp.blk_alloc B5 (.cells #[.int .i64 0, .int .i64 0, .int .i64 0, .int .i64 0, .int .i64 0] 25)
            refine hK.out _ _ HSC2 ?_
            clear hK KK HSC
            have HSC := HSC2
            clear HSC2
            try simp only [Act.put, List.setIfInBounds_toArray, List.set_cons_zero, List.set_cons_succ]
            refine Rg.Upto.one (i := 12) rfl (by kernel_rfl) (by rfl) (fun KK hK => ?_)
            go_simp
            refine hK.out _ _ (heap5 w _ _ _ _ _).1 ?_
            clear hK KK
            try simp only [Act.put, List.setIfInBounds_toArray, List.set_cons_zero, List.set_cons_succ]
            refine Rg.Upto.one (i := 13) rfl (by kernel_rfl) (by rfl) (fun KK hK => ?_)
            go_simp
            refine hK.out _ _ (heap5 w _ _ _ _ _).1 ?_
            clear hK KK
            try simp only [Act.put, List.setIfInBounds_toArray, List.set_cons_zero, List.set_cons_succ]
            refine Rg.Upto.one (i := 14) rfl (by kernel_rfl) (by rfl) (fun KK hK => ?_)
            go_simp
            refine hK.out _ _ (heap5 w _ _ _ _ _).1 ?_
            clear hK KK
            try simp only [Act.put, List.setIfInBounds_toArray, List.set_cons_zero, List.set_cons_succ]
            refine Rg.Upto.one (i := 15) rfl (by kernel_rfl) (by rfl) (fun KK hK => ?_)
            go_simp
            refine hK.out _ _ (heap5 w _ _ _ _ _).1 ?_
            clear hK KK
            try simp only [Act.put, List.setIfInBounds_toArray, List.set_cons_zero, List.set_cons_succ]
            refine Rg.Upto.done (by kernel_rfl) ?_
            clear HSC B3 B4 B5 B6
            go_wp2_with (fail)
            go_meet
            have hh := heap5 w (.cells #[.int .i64 a0, .int .i64 a1, .int .i64 a2, .int .i64 a3, .int .i64 a4, .int .i64 a5, .int .i64 a6, .int .i64 a7, .int .i64 a8, .int .i64 a9, .int .i64 a10, .int .i64 a11, .int .i64 a12, .int .i64 a13, .int .i64 a14, .int .i64 a15] 27) (.cells #[.int .i64 a3, .int .i64 a4, .int .i64 a5] 23) (.cells #[.int .i64 a0, .int .i64 a1, .int .i64 a2] 23) (.cells #[.int .i64 a6, .int .i64 a7, .int .i64 a8, .int .i64 a9, .int .i64 a10] 25) (.cells #[.int .i64 a11, .int .i64 a12, .int .i64 a13, .int .i64 a14, .int .i64 a15] 25)
            exact ⟨w.heap.size + 1 + 1, w.heap.size + 1, w.heap.size + 1 + 1 + 1, w.heap.size + 1 + 1 + 1 + 1, rfl, rfl, rfl, rfl, Lib.hid hh.2.2.1, Lib.hid hh.2.1, Lib.hid hh.2.2.2.1, Lib.hid hh.2.2.2.2, Lib.hid (heap5b w _ _ _ _ _)⟩
        · refine ⟨_, rfl, rfl, fun KK hK => ?_⟩
          go_simp
          have HSC2 := Hp.blk_alloc HSC (.cells #[.int .i64 0, .int .i64 0, .int .i64 0, .int .i64 0, .int .i64 0] 25)
          have B6 := new_at HSC (.cells #[.int .i64 0, .int .i64 0, .int .i64 0, .int .i64 0, .int .i64 0] 25) (n := w.heap.size + 3) (by simp)
          replace B4 := Hp.blk_alloc B4 (.cells #[.int .i64 0, .int .i64 0, .int .i64 0, .int .i64 0, .int .i64 0] 25)
          replace B3 := Hp.blk_alloc B3 (.cells #[.int .i64 0, .int .i64 0, .int .i64 0, .int .i64 0, .int .i64 0] 25)
          refine hK.out _ _ HSC2 ?_
          clear hK KK HSC
          have HSC := HSC2
          clear HSC2
          try simp only [Act.put, List.setIfInBounds_toArray, List.set_cons_zero, List.set_cons_succ]
          refine Rg.Upto.cases (L := [10]) (by kernel_rfl) (by simp) (fun i hi => ?_)
          simp only [List.mem_cons, List.not_mem_nil, or_false] at hi
          subst hi
          · refine ⟨_, rfl, rfl, fun KK hK => ?_⟩
            go_simp
            have HSC2 := Hp.blk_alloc HSC (.cells #[.int .i64 0, .int .i64 0, .int .i64 0, .int .i64 0, .int .i64 0] 25)
            have B5 := new_at HSC (.cells #[.int .i64 0, .int .i64 0, .int .i64 0, .int .i64 0, .int .i64 0] 25) (n := w.heap.size + 4) (by simp)
            replace B4 := Hp.blk_alloc B4 (.cells #[.int .i64 0, .int .i64 0, .int .i64 0, .int .i64 0, .int .i64 0] 25)
            replace B3 := Hp.blk_alloc B3 (.cells #[.int .i64 0, .int .i64 0, .int .i64 0, .int .i64 0, .int .i64 0] 25)
            replace B6 := Hp.blk_alloc B6 (.cells #[.int .i64 0, .int .i64 0, .int .i64 0, .int .i64 0, .int .i64 0] 25)
            refine hK.out _ _ HSC2 ?_
            clear hK KK HSC
            have HSC := HSC2
            clear HSC2
            try simp only [Act.put, List.setIfInBounds_toArray, List.set_cons_zero, List.set_cons_succ]
            refine Rg.Upto.one (i := 12) rfl (by kernel_rfl) (by rfl) (fun KK hK => ?_)
            go_simp
            refine hK.out _ _ (heap5 w _ _ _ _ _).1 ?_
            clear hK KK
            try simp only [Act.put, List.setIfInBounds_toArray, List.set_cons_zero, List.set_cons_succ]
            refine Rg.Upto.one (i := 13) rfl (by kernel_rfl) (by rfl) (fun KK hK => ?_)
            go_simp
            refine hK.out _ _ (heap5 w _ _ _ _ _).1 ?_
            clear hK KK
            try simp only [Act.put, List.setIfInBounds_toArray, List.set_cons_zero, List.set_cons_succ]
            refine Rg.Upto.one (i := 14) rfl (by kernel_rfl) (by rfl) (fun KK hK => ?_)
            go_simp
            refine hK.out _ _ (heap5 w _ _ _ _ _).1 ?_
            clear hK KK
            try simp only [Act.put, List.setIfInBounds_toArray, List.set_cons_zero, List.set_cons_succ]
            refine Rg.Upto.one (i := 15) rfl (by kernel_rfl) (by rfl) (fun KK hK => ?_)
            go_simp
            refine hK.out _ _ (heap5 w _ _ _ _ _).1 ?_
            clear hK KK
            try simp only [Act.put, List.setIfInBounds_toArray, List.set_cons_zero, List.set_cons_succ]
            refine Rg.Upto.done (by kernel_rfl) ?_
            clear HSC B3 B4 B5 B6
            go_wp2_with (fail)
            go_meet
            have hh := heap5 w (.cells #[.int .i64 a0, .int .i64 a1, .int .i64 a2, .int .i64 a3, .int .i64 a4, .int .i64 a5, .int .i64 a6, .int .i64 a7, .int .i64 a8, .int .i64 a9, .int .i64 a10, .int .i64 a11, .int .i64 a12, .int .i64 a13, .int .i64 a14, .int .i64 a15] 27) (.cells #[.int .i64 a3, .int .i64 a4, .int .i64 a5] 23) (.cells #[.int .i64 a0, .int .i64 a1, .int .i64 a2] 23) (.cells #[.int .i64 a11, .int .i64 a12, .int .i64 a13, .int .i64 a14, .int .i64 a15] 25) (.cells #[.int .i64 a6, .int .i64 a7, .int .i64 a8, .int .i64 a9, .int .i64 a10] 25)
            exact ⟨w.heap.size + 1 + 1, w.heap.size + 1, w.heap.size + 1 + 1 + 1 + 1, w.heap.size + 1 + 1 + 1, rfl, rfl, rfl, rfl, Lib.hid hh.2.2.1, Lib.hid hh.2.1, Lib.hid hh.2.2.2.2, Lib.hid hh.2.2.2.1, Lib.hid (heap5b w _ _ _ _ _)⟩
      · refine ⟨_, rfl, rfl, fun KK hK => ?_⟩
        go_simp
        have HSC2 := Hp.blk_alloc HSC (.cells #[.int .i64 0, .int .i64 0, .int .i64 0, .int .i64 0, .int .i64 0] 25)
        have B5 := new_at HSC (.cells #[.int .i64 0, .int .i64 0, .int .i64 0, .int .i64 0, .int .i64 0] 25) (n := w.heap.size + 2) (by simp)
        replace B4 := Hp.blk_alloc B4 (.cells #[.int .i64 0, .int .i64 0, .int .i64 0, .int .i64 0, .int .i64 0] 25)
        refine hK.out _ _ HSC2 ?_
        clear hK KK HSC
        have HSC := HSC2
        clear HSC2
        try simp only [Act.put, List.setIfInBounds_toArray, List.set_cons_zero, List.set_cons_succ]
        refine Rg.Upto.cases (L := [8, 11]) (by kernel_rfl) (by simp) (fun i hi => ?_)
        simp only [List.mem_cons, List.not_mem_nil, or_false] at hi
        rcases hi with rfl | rfl
        · refine ⟨_, rfl, rfl, fun KK hK => ?_⟩
          go_simp
          have HSC2 := Hp.blk_alloc HSC (.cells #[.int .i64 0, .int .i64 0, .int .i64 0] 23)
          have B3 := new_at HSC (.cells #[.int .i64 0, .int .i64 0, .int .i64 0] 23) (n := w.heap.size + 3) (by simp)
          replace B4 := Hp.blk_alloc B4 (.cells #[.int .i64 0, .int .i64 0, .int .i64 0] 23)
          replace B5 := Hp.blk_alloc B5 (.cells #[.int .i64 0, .int .i64 0, .int .i64 0] 23)
          refine hK.out _ _ HSC2 ?_
          clear hK KK HSC
          have HSC := HSC2
          clear HSC2
          try simp only [Act.put, List.setIfInBounds_toArray, List.set_cons_zero, List.set_cons_succ]
          refine Rg.Upto.cases (L := [11]) (by kernel_rfl) (by simp) (fun i hi => ?_)
          simp only [List.mem_cons, List.not_mem_nil, or_false] at hi
          subst hi
          · refine ⟨_, rfl, rfl, fun KK hK => ?_⟩
            go_simp
            have HSC2 := Hp.blk_alloc HSC (.cells #[.int .i64 0, .int .i64 0, .int .i64 0, .int .i64 0, .int .i64 0] 25)
            have B6 := new_at HSC (.cells #[.int .i64 0, .int .i64 0, .int .i64 0, .int .i64 0, .int .i64 0] 25) (n := w.heap.size + 4) (by simp)
            replace B4 := Hp.blk_alloc B4 (.cells #[.int .i64 0, .int .i64 0, .int .i64 0, .int .i64 0, .int .i64 0] 25)
            replace B5 := Hp.blk_alloc B5 (.cells #[.int .i64 0, .int .i64 0, .int .i64 0, .int .i64 0, .int .i64 0] 25)
            replace B3 := Hp.blk_alloc B3 (.cells #[.int .i64 0, .int .i64 0, .int .i64 0, .int .i64 0, .int .i64 0] 25)
            refine hK.out _ _ HSC2 ?_
            clear hK KK HSC
            have HSC := HSC2
            clear HSC2
            try simp only [Act.put, List.setIfInBounds_toArray, List.set_cons_zero, List.set_cons_succ]
            refine Rg.Upto.one (i := 12) rfl (by kernel_rfl) (by rfl) (fun KK hK => ?_)
            go_simp
            refine hK.out _ _ (heap5 w _ _ _ _ _).1 ?_
            clear hK KK
            try simp only [Act.put, List.setIfInBounds_toArray, List.set_cons_zero, List.set_cons_succ]
            refine Rg.Upto.one (i := 13) rfl (by kernel_rfl) (by rfl) (fun KK hK => ?_)
            go_simp
            refine hK.out _ _ (heap5 w _ _ _ _ _).1 ?_
            clear hK KK
            try simp only [Act.put, List.setIfInBounds_toArray, List.set_cons_zero, List.set_cons_succ]
            refine Rg.Upto.one (i := 14) rfl (by kernel_rfl) (by rfl) (fun KK hK => ?_)
            go_simp
            refine hK.out _ _ (heap5 w _ _ _ _ _).1 ?_
            clear hK KK
            try simp only [Act.put, List.setIfInBounds_toArray, List.set_cons_zero, List.set_cons_succ]
            refine Rg.Upto.one (i := 15) rfl (by kernel_rfl) (by rfl) (fun KK hK => ?_)
            go_simp
            refine hK.out _ _ (heap5 w _ _ _ _ _).1 ?_
            clear hK KK
            try simp only [Act.put, List.setIfInBounds_toArray, List.set_cons_zero, List.set_cons_succ]
            refine Rg.Upto.done (by kernel_rfl) ?_
            clear HSC B3 B4 B5 B6
            go_wp2_with (fail)
            go_meet
            have hh := heap5 w (.cells #[.int .i64 a0, .int .i64 a1, .int .i64 a2, .int .i64 a3, .int .i64 a4, .int .i64 a5, .int .i64 a6, .int .i64 a7, .int .i64 a8, .int .i64 a9, .int .i64 a10, .int .i64 a11, .int .i64 a12, .int .i64 a13, .int .i64 a14, .int .i64 a15] 27) (.cells #[.int .i64 a3, .int .i64 a4, .int .i64 a5] 23) (.cells #[.int .i64 a6, .int .i64 a7, .int .i64 a8, .int .i64 a9, .int .i64 a10] 25) (.cells #[.int .i64 a0, .int .i64 a1, .int .i64 a2] 23) (.cells #[.int .i64 a11, .int .i64 a12, .int .i64 a13, .int .i64 a14, .int .i64 a15] 25)
            exact ⟨w.heap.size + 1 + 1 + 1, w.heap.size + 1, w.heap.size + 1 + 1, w.heap.size + 1 + 1 + 1 + 1, rfl, rfl, rfl, rfl, Lib.hid hh.2.2.2.1, Lib.hid hh.2.1, Lib.hid hh.2.2.1, Lib.hid hh.2.2.2.2, Lib.hid (heap5b w _ _ _ _ _)⟩
        · refine ⟨_, rfl, rfl, fun KK hK => ?_⟩
          go_simp
          have HSC2 := Hp.blk_alloc HSC (.cells #[.int .i64 0, .int .i64 0, .int .i64 0, .int .i64 0, .int .i64 0] 25)
          have B6 := new_at HSC (.cells #[.int .i64 0, .int .i64 0, .int .i64 0, .int .i64 0, .int .i64 0] 25) (n := w.heap.size + 3) (by simp)
          replace B4 := Hp.blk_alloc B4 (.cells #[.int .i64 0, .int .i64 0, .int .i64 0, .int .i64 0, .int .i64 0] 25)
          replace B5 := Hp.blk_alloc B5 (.cells #[.int .i64 0, .int .i64 0, .int .i64 0, .int .i64 0, .int .i64 0] 25)
          refine hK.out _ _ HSC2 ?_
          clear hK KK HSC
          have HSC := HSC2
          clear HSC2
          try simp only [Act.put, List.setIfInBounds_toArray, List.set_cons_zero, List.set_cons_succ]
          refine Rg.Upto.cases (L := [8]) (by kernel_rfl) (by simp) (fun i hi => ?_)
          simp only [List.mem_cons, List.not_mem_nil, or_false] at hi
          subst hi
          · refine ⟨_, rfl, rfl, fun KK hK => ?_⟩
            go_simp
            have HSC2 := Hp.blk_alloc HSC (.cells #[.int .i64 0, .int .i64 0, .int .i64 0] 23)
            have B3 := new_at HSC (.cells #[.int .i64 0, .int .i64 0, .int .i64 0] 23) (n := w.heap.size + 4) (by simp)
            replace B4 := Hp.blk_alloc B4 (.cells #[.int .i64 0, .int .i64 0, .int .i64 0] 23)
            replace B5 := Hp.blk_alloc B5 (.cells #[.int .i64 0, .int .i64 0, .int .i64 0] 23)
            replace B6 := Hp.blk_alloc B6 (.cells #[.int .i64 0, .int .i64 0, .int .i64 0] 23)
            refine hK.out _ _ HSC2 ?_
            clear hK KK HSC
            have HSC := HSC2
            clear HSC2
            try simp only [Act.put, List.setIfInBounds_toArray, List.set_cons_zero, List.set_cons_succ]
            refine Rg.Upto.one (i := 12) rfl (by kernel_rfl) (by rfl) (fun KK hK => ?_)
            go_simp
            refine hK.out _ _ (heap5 w _ _ _ _ _).1 ?_
            clear hK KK
            try simp only [Act.put, List.setIfInBounds_toArray, List.set_cons_zero, List.set_cons_succ]
            refine Rg.Upto.one (i := 13) rfl (by kernel_rfl) (by rfl) (fun KK hK => ?_)
            go_simp
            refine hK.out _ _ (heap5 w _ _ _ _ _).1 ?_
            clear hK KK
            try simp only [Act.put, List.setIfInBounds_toArray, List.set_cons_zero, List.set_cons_succ]
            refine Rg.Upto.one (i := 14) rfl (by kernel_rfl) (by rfl) (fun KK hK => ?_)
            go_simp
            refine hK.out _ _ (heap5 w _ _ _ _ _).1 ?_
            clear hK KK
            try simp only [Act.put, List.setIfInBounds_toArray, List.set_cons_zero, List.set_cons_succ]
            refine Rg.Upto.one (i := 15) rfl (by kernel_rfl) (by rfl) (fun KK hK => ?_)
            go_simp
            refine hK.out _ _ (heap5 w _ _ _ _ _).1 ?_
            clear hK KK
            try simp only [Act.put, List.setIfInBounds_toArray, List.set_cons_zero, List.set_cons_succ]
            refine Rg.Upto.done (by kernel_rfl) ?_
            clear HSC B3 B4 B5 B6
            go_wp2_with (fail)
            go_meet
            have hh := heap5 w (.cells #[.int .i64 a0, .int .i64 a1, .int .i64 a2, .int .i64 a3, .int .i64 a4, .int .i64 a5, .int .i64 a6, .int .i64 a7, .int .i64 a8, .int .i64 a9, .int .i64 a10, .int .i64 a11, .int .i64 a12, .int .i64 a13, .int .i64 a14, .int .i64 a15] 27) (.cells #[.int .i64 a3, .int .i64 a4, .int .i64 a5] 23) (.cells #[.int .i64 a6, .int .i64 a7, .int .i64 a8, .int .i64 a9, .int .i64 a10] 25) (.cells #[.int .i64 a11, .int .i64 a12, .int .i64 a13, .int .i64 a14, .int .i64 a15] 25) (.cells #[.int .i64 a0, .int .i64 a1, .int .i64 a2] 23)
            exact ⟨w.heap.size + 1 + 1 + 1 + 1, w.heap.size + 1, w.heap.size + 1 + 1, w.heap.size + 1 + 1 + 1, rfl, rfl, rfl, rfl, Lib.hid hh.2.2.2.2, Lib.hid hh.2.1, Lib.hid hh.2.2.1, Lib.hid hh.2.2.2.1, Lib.hid (heap5b w _ _ _ _ _)⟩
      · refine ⟨_, rfl, rfl, fun KK hK => ?_⟩
        go_simp
        have HSC2 := Hp.blk_alloc HSC (.cells #[.int .i64 0, .int .i64 0, .int .i64 0, .int .i64 0, .int .i64 0] 25)
        have B6 := new_at HSC (.cells #[.int .i64 0, .int .i64 0, .int .i64 0, .int .i64 0, .int .i64 0] 25) (n := w.heap.size + 2) (by simp)
        replace B4 := Hp.blk_alloc B4 (.cells #[.int .i64 0, .int .i64 0, .int .i64 0, .int .i64 0, .int .i64 0] 25)
        refine hK.out _ _ HSC2 ?_
        clear hK KK HSC
        have HSC := HSC2
        clear HSC2
        try simp only [Act.put, List.setIfInBounds_toArray, List.set_cons_zero, List.set_cons_succ]
        refine Rg.Upto.cases (L := [8, 10]) (by kernel_rfl) (by simp) (fun i hi => ?_)
        simp only [List.mem_cons, List.not_mem_nil, or_false] at hi
        rcases hi with rfl | rfl
        · refine ⟨_, rfl, rfl, fun KK hK => ?_⟩
          go_simp
          have HSC2 := Hp.blk_alloc HSC (.cells #[.int .i64 0, .int .i64 0, .int .i64 0] 23)
          have B3 := new_at HSC (.cells #[.int .i64 0, .int .i64 0, .int .i64 0] 23) (n := w.heap.size + 3) (by simp)
          replace B4 := Hp.blk_alloc B4 (.cells #[.int .i64 0, .int .i64 0, .int .i64 0] 23)
          replace B6 := Hp.blk_alloc B6 (.cells #[.int .i64 0, .int .i64 0, .int .i64 0] 23)
          refine hK.out _ _ HSC2 ?_
          clear hK KK HSC
          have HSC := HSC2
          clear HSC2
          try simp only [Act.put, List.setIfInBounds_toArray, List.set_cons_zero, List.set_cons_succ]
          refine Rg.Upto.cases (L := [10]) (by kernel_rfl) (by simp) (fun i hi => ?_)
          simp only [List.mem_cons, List.not_mem_nil, or_false] at hi
          subst hi
          · refine ⟨_, rfl, rfl, fun KK hK => ?_⟩
            go_simp
            have HSC2 := Hp.blk_alloc HSC (.cells #[.int .i64 0, .int .i64 0, .int .i64 0, .int .i64 0, .int .i64 0] 25)
            have B5 := new_at HSC (.cells #[.int .i64 0, .int .i64 0, .int .i64 0, .int .i64 0, .int .i64 0] 25) (n := w.heap.size + 4) (by simp)
            replace B4 := Hp.blk_alloc B4 (.cells #[.int .i64 0, .int .i64 0, .int .i64 0, .int .i64 0, .int .i64 0] 25)
            replace B6 := Hp.blk_alloc B6 (.cells #[.int .i64 0, .int .i64 0, .int .i64 0, .int .i64 0, .int .i64 0] 25)
            replace B3 := Hp.blk_alloc B3 (.cells #[.int .i64 0, .int .i64 0, .int .i64 0, .int .i64 0, .int .i64 0] 25)
            refine hK.out _ _ HSC2 ?_
            clear hK KK HSC
            have HSC := HSC2
            clear HSC2
            try simp only [Act.put, List.setIfInBounds_toArray, List.set_cons_zero, List.set_cons_succ]
            refine Rg.Upto.one (i := 12) rfl (by kernel_rfl) (by rfl) (fun KK hK => ?_)
            go_simp
            refine hK.out _ _ (heap5 w _ _ _ _ _).1 ?_
            clear hK KK
            try simp only [Act.put, List.setIfInBounds_toArray, List.set_cons_zero, List.set_cons_succ]
            refine Rg.Upto.one (i := 13) rfl (by kernel_rfl) (by rfl) (fun KK hK => ?_)
            go_simp
            refine hK.out _ _ (heap5 w _ _ _ _ _).1 ?_
            clear hK KK
            try simp only [Act.put, List.setIfInBounds_toArray, List.set_cons_zero, List.set_cons_succ]
            refine Rg.Upto.one (i := 14) rfl (by kernel_rfl) (by rfl) (fun KK hK => ?_)
            go_simp
            refine hK.out _ _ (heap5 w _ _ _ _ _).1 ?_
            clear hK KK
            try simp only [Act.put, List.setIfInBounds_toArray, List.set_cons_zero, List.set_cons_succ]
            refine Rg.Upto.one (i := 15) rfl (by kernel_rfl) (by rfl) (fun KK hK => ?_)
            go_simp
            refine hK.out _ _ (heap5 w _ _ _ _ _).1 ?_
            clear hK KK
            try simp only [Act.put, List.setIfInBounds_toArray, List.set_cons_zero, List.set_cons_succ]
            refine Rg.Upto.done (by kernel_rfl) ?_
            clear HSC B3 B4 B5 B6
            go_wp2_with (fail)
            go_meet
            have hh := heap5 w (.cells #[.int .i64 a0, .int .i64 a1, .int .i64 a2, .int .i64 a3, .int .i64 a4, .int .i64 a5, .int .i64 a6, .int .i64 a7, .int .i64 a8, .int .i64 a9, .int .i64 a10, .int .i64 a11, .int .i64 a12, .int .i64 a13, .int .i64 a14, .int .i64 a15] 27) (.cells #[.int .i64 a3, .int .i64 a4, .int .i64 a5] 23) (.cells #[.int .i64 a11, .int .i64 a12, .int .i64 a13, .int .i64 a14, .int .i64 a15] 25) (.cells #[.int .i64 a0, .int .i64 a1, .int .i64 a2] 23) (.cells #[.int .i64 a6, .int .i64 a7, .int .i64 a8, .int .i64 a9, .int .i64 a10] 25)
            exact ⟨w.heap.size + 1 + 1 + 1, w.heap.size + 1, w.heap.size + 1 + 1 + 1 + 1, w.heap.size + 1 + 1, rfl, rfl, rfl, rfl, Lib.hid hh.2.2.2.1, Lib.hid hh.2.1, Lib.hid hh.2.2.2.2, Lib.hid hh.2.2.1, Lib.hid (heap5b w _ _ _ _ _)⟩
        · refine ⟨_, rfl, rfl, fun KK hK => ?_⟩
          go_simp
          have HSC2 := Hp.blk_alloc HSC (.cells #[.int .i64 0, .int .i64 0, .int .i64 0, .int .i64 0, .int .i64 0] 25)
          have B5 := new_at HSC (.cells #[.int .i64 0, .int .i64 0, .int .i64 0, .int .i64 0, .int .i64 0] 25) (n := w.heap.size + 3) (by simp)
          replace B4 := Hp.blk_alloc B4 (.cells #[.int .i64 0, .int .i64 0, .int .i64 0, .int .i64 0, .int .i64 0] 25)
          replace B6 := Hp.blk_alloc B6 (.cells #[.int .i64 0, .int .i64 0, .int .i64 0, .int .i64 0, .int .i64 0] 25)
          refine hK.out _ _ HSC2 ?_
          clear hK KK HSC
          have HSC := HSC2
          clear HSC2
          try simp only [Act.put, List.setIfInBounds_toArray, List.set_cons_zero, List.set_cons_succ]
          refine Rg.Upto.cases (L := [8]) (by kernel_rfl) (by simp) (fun i hi => ?_)
          simp only [List.mem_cons, List.not_mem_nil, or_false] at hi
          subst hi
          · refine ⟨_, rfl, rfl, fun KK hK => ?_⟩
            go_simp
            have HSC2 := Hp.blk_alloc HSC (.cells #[.int .i64 0, .int .i64 0, .int .i64 0] 23)
            have B3 := new_at HSC (.cells #[.int .i64 0, .int .i64 0, .int .i64 0] 23) (n := w.heap.size + 4) (by simp)
            replace B4 := Hp.blk_alloc B4 (.cells #[.int .i64 0, .int .i64 0, .int .i64 0] 23)
            replace B6 := Hp.blk_alloc B6 (.cells #[.int .i64 0, .int .i64 0, .int .i64 0] 23)
            replace B5 := Hp.blk_alloc B5 (.cells #[.int .i64 0, .int .i64 0, .int .i64 0] 23)
            refine hK.out _ _ HSC2 ?_
            clear hK KK HSC
            have HSC := HSC2
            clear HSC2
            try simp only [Act.put, List.setIfInBounds_toArray, List.set_cons_zero, List.set_cons_succ]
            refine Rg.Upto.one (i := 12) rfl (by kernel_rfl) (by rfl) (fun KK hK => ?_)
            go_simp
            refine hK.out _ _ (heap5 w _ _ _ _ _).1 ?_
            clear hK KK
            try simp only [Act.put, List.setIfInBounds_toArray, List.set_cons_zero, List.set_cons_succ]
            refine Rg.Upto.one (i := 13) rfl (by kernel_rfl) (by rfl) (fun KK hK => ?_)
            go_simp
            refine hK.out _ _ (heap5 w _ _ _ _ _).1 ?_
            clear hK KK
            try simp only [Act.put, List.setIfInBounds_toArray, List.set_cons_zero, List.set_cons_succ]
            refine Rg.Upto.one (i := 14) rfl (by kernel_rfl) (by rfl) (fun KK hK => ?_)
            go_simp
            refine hK.out _ _ (heap5 w _ _ _ _ _).1 ?_
            clear hK KK
            try simp only [Act.put, List.setIfInBounds_toArray, List.set_cons_zero, List.set_cons_succ]
            refine Rg.Upto.one (i := 15) rfl (by kernel_rfl) (by rfl) (fun KK hK => ?_)
            go_simp
            refine hK.out _ _ (heap5 w _ _ _ _ _).1 ?_
            clear hK KK
            try simp only [Act.put, List.setIfInBounds_toArray, List.set_cons_zero, List.set_cons_succ]
            refine Rg.Upto.done (by kernel_rfl) ?_
            clear HSC B3 B4 B5 B6
            go_wp2_with (fail)
            go_meet
            have hh := heap5 w (.cells #[.int .i64 a0, .int .i64 a1, .int .i64 a2, .int .i64 a3, .int .i64 a4, .int .i64 a5, .int .i64 a6, .int .i64 a7, .int .i64 a8, .int .i64 a9, .int .i64 a10, .int .i64 a11, .int .i64 a12, .int .i64 a13, .int .i64 a14, .int .i64 a15] 27) (.cells #[.int .i64 a3, .int .i64 a4, .int .i64 a5] 23) (.cells #[.int .i64 a11, .int .i64 a12, .int .i64 a13, .int .i64 a14, .int .i64 a15] 25) (.cells #[.int .i64 a6, .int .i64 a7, .int .i64 a8, .int .i64 a9, .int .i64 a10] 25) (.cells #[.int .i64 a0, .int .i64 a1, .int .i64 a2] 23)
            exact ⟨w.heap.size + 1 + 1 + 1 + 1, w.heap.size + 1, w.heap.size + 1 + 1 + 1, w.heap.size + 1 + 1, rfl, rfl, rfl, rfl, Lib.hid hh.2.2.2.2, Lib.hid hh.2.1, Lib.hid hh.2.2.2.1, Lib.hid hh.2.2.1, Lib.hid (heap5b w _ _ _ _ _)⟩
    · refine ⟨_, rfl, rfl, fun KK hK => ?_⟩
      go_simp
      have HSC2 := Hp.blk_alloc HSC (.cells #[.int .i64 0, .int .i64 0, .int .i64 0, .int .i64 0, .int .i64 0] 25)
      have B5 := new_at HSC (.cells #[.int .i64 0, .int .i64 0, .int .i64 0, .int .i64 0, .int .i64 0] 25) (n := w.heap.size + 1) (by simp)
      refine hK.out _ _ HSC2 ?_
      clear hK KK HSC
      have HSC := HSC2
      clear HSC2
      try simp only [Act.put, List.setIfInBounds_toArray, List.set_cons_zero, List.set_cons_succ]
      refine Rg.Upto.cases (L := [8, 9, 11]) (by kernel_rfl) (by simp) (fun i hi => ?_)
      simp only [List.mem_cons, List.not_mem_nil, or_false] at hi
      rcases hi with rfl | rfl | rfl
      · refine ⟨_, rfl, rfl, fun KK hK => ?_⟩
        go_simp
        have HSC2 := Hp.blk_alloc HSC (.cells #[.int .i64 0, .int .i64 0, .int .i64 0] 23)
        have B3 := new_at HSC (.cells #[.int .i64 0, .int .i64 0, .int .i64 0] 23) (n := w.heap.size + 2) (by simp)
        replace B5 := Hp.blk_alloc B5 (.cells #[.int .i64 0, .int .i64 0, .int .i64 0] 23)
        refine hK.out _ _ HSC2 ?_
        clear hK KK HSC
        have HSC := HSC2
        clear HSC2
        try simp only [Act.put, List.setIfInBounds_toArray, List.set_cons_zero, List.set_cons_succ]
        refine Rg.Upto.cases (L := [9, 11]) (by kernel_rfl) (by simp) (fun i hi => ?_)
        simp only [List.mem_cons, List.not_mem_nil, or_false] at hi
        rcases hi with rfl | rfl
        · refine ⟨_, rfl, rfl, fun KK hK => ?_⟩
          go_simp
          have HSC2 := Hp.blk_alloc HSC (.cells #[.int .i64 0, .int .i64 0, .int .i64 0] 23)
          have B4 := new_at HSC (.cells #[.int .i64 0, .int .i64 0, .int .i64 0] 23) (n := w.heap.size + 3) (by simp)
          replace B5 := Hp.blk_alloc B5 (.cells #[.int .i64 0, .int .i64 0, .int .i64 0] 23)
          replace B3 := Hp.blk_alloc B3 (.cells #[.int .i64 0, .int .i64 0, .int .i64 0] 23)
          refine hK.out _ _ HSC2 ?_
          clear hK KK HSC
          have HSC := HSC2
          clear HSC2
          try simp only [Act.put, List.setIfInBounds_toArray, List.set_cons_zero, List.set_cons_succ]
          refine Rg.Upto.cases (L := [11]) (by kernel_rfl) (by simp) (fun i hi => ?_)
          simp only [List.mem_cons, List.not_mem_nil, or_false] at hi
          subst hi
          · refine ⟨_, rfl, rfl, fun KK hK => ?_⟩
            go_simp
            have HSC2 := Hp.blk_alloc HSC (.cells #[.int .i64 0, .int .i64 0, .int .i64 0, .int .i64 0, .int .i64 0] 25)
            have B6 := new_at HSC (.cells #[.int .i64 0, .int .i64 0, .int .i64 0, .int .i64 0, .int .i64 0] 25) (n := w.heap.size + 4) (by simp)
            replace B5 := Hp.blk_alloc B5 (.cells #[.int .i64 0, .int .i64 0, .int .i64 0, .int .i64 0, .int .i64 0] 25)
            replace B3 := Hp.blk_alloc B3 (.cells #[.int .i64 0, .int .i64 0, .int .i64 0, .int .i64 0, .int .i64 0] 25)
            replace B4 := Hp.blk_alloc B4 (.cells #[.int .i64 0, .int .i64 0, .int .i64 0, .int .i64 0, .int .i64 0] 25)
            refine hK.out _ _ HSC2 ?_
            clear hK KK HSC
            have HSC := HSC2
            clear HSC2
            try simp only [Act.put, List.setIfInBounds_toArray, List.set_cons_zero, List.set_cons_succ]
            refine Rg.Upto.one (i := 12) rfl (by kernel_rfl) (by rfl) (fun KK hK => ?_)
            go_simp
            refine hK.out _ _ (heap5 w _ _ _ _ _).1 ?_
            clear hK KK
            try simp only [Act.put, List.setIfInBounds_toArray, List.set_cons_zero, List.set_cons_succ]
            refine Rg.Upto.one (i := 13) rfl (by kernel_rfl) (by rfl) (fun KK hK => ?_)
            go_simp
            refine hK.out _ _ (heap5 w _ _ _ _ _).1 ?_
            clear hK KK
            try simp only [Act.put, List.setIfInBounds_toArray, List.set_cons_zero, List.set_cons_succ]
            refine Rg.Upto.one (i := 14) rfl (by kernel_rfl) (by rfl) (fun KK hK => ?_)
            go_simp
            refine hK.out _ _ (heap5 w _ _ _ _ _).1 ?_
            clear hK KK
            try simp only [Act.put, List.setIfInBounds_toArray, List.set_cons_zero, List.set_cons_succ]
            refine Rg.Upto.one (i := 15) rfl (by kernel_rfl) (by rfl) (fun KK hK => ?_)
            go_simp
            refine hK.out _ _ (heap5 w _ _ _ _ _).1 ?_
            clear hK KK
            try simp only [Act.put, List.setIfInBounds_toArray, List.set_cons_zero, List.set_cons_succ]
            refine Rg.Upto.done (by kernel_rfl) ?_
            clear HSC B3 B4 B5 B6
            go_wp2_with (fail)
            go_meet
            have hh := heap5 w (.cells #[.int .i64 a0, .int .i64 a1, .int .i64 a2, .int .i64 a3, .int .i64 a4, .int .i64 a5, .int .i64 a6, .int .i64 a7, .int .i64 a8, .int .i64 a9, .int .i64 a10, .int .i64 a11, .int .i64 a12, .int .i64 a13, .int .i64 a14, .int .i64 a15] 27) (.cells #[.int .i64 a6, .int .i64 a7, .int .i64 a8, .int .i64 a9, .int .i64 a10] 25) (.cells #[.int .i64 a0, .int .i64 a1, .int .i64 a2] 23) (.cells #[.int .i64 a3, .int .i64 a4, .int .i64 a5] 23) (.cells #[.int .i64 a11, .int .i64 a12, .int .i64 a13, .int .i64 a14, .int .i64 a15] 25)
            exact ⟨w.heap.size + 1 + 1, w.heap.size + 1 + 1 + 1, w.heap.size + 1, w.heap.size + 1 + 1 + 1 + 1, rfl, rfl, rfl, rfl, Lib.hid hh.2.2.1, Lib.hid hh.2.2.2.1, Lib.hid hh.2.1, Lib.hid hh.2.2.2.2, Lib.hid (heap5b w _ _ _ _ _)⟩
        · refine ⟨_, rfl, rfl, fun KK hK => ?_⟩
          go_simp
          have HSC2 := Hp.blk_alloc HSC (.cells #[.int .i64 0, .int .i64 0, .int .i64 0, .int .i64 0, .int .i64 0] 25)
          have B6 := new_at HSC (.cells #[.int .i64 0, .int .i64 0, .int .i64 0, .int .i64 0, .int .i64 0] 25) (n := w.heap.size + 3) (by simp)
          replace B5 := Hp.blk_alloc B5 (.cells #[.int .i64 0, .int .i64 0, .int .i64 0, .int .i64 0, .int .i64 0] 25)
          replace B3 := Hp.blk_alloc B3 (.cells #[.int .i64 0, .int .i64 0, .int .i64 0, .int .i64 0, .int .i64 0] 25)
          refine hK.out _ _ HSC2 ?_
          clear hK KK HSC
          have HSC := HSC2
          clear HSC2
          try simp only [Act.put, List.setIfInBounds_toArray, List.set_cons_zero, List.set_cons_succ]
          refine Rg.Upto.cases (L := [9]) (by kernel_rfl) (by simp) (fun i hi => ?_)
          simp only [List.mem_cons, List.not_mem_nil, or_false] at hi
          subst hi
          · refine ⟨_, rfl, rfl, fun KK hK => ?_⟩
            go_simp
            have HSC2 := Hp.blk_alloc HSC (.cells #[.int .i64 0, .int .i64 0, .int .i64 0] 23)
            have B4 := new_at HSC (.cells #[.int .i64 0, .int .i64 0, .int .i64 0] 23) (n := w.heap.size + 4) (by simp)
            replace B5 := Hp.blk_alloc B5 (.cells #[.int .i64 0, .int .i64 0, .int .i64 0] 23)
            replace B3 := Hp.blk_alloc B3 (.cells #[.int .i64 0, .int .i64 0, .int .i64 0] 23)
            replace B6 := Hp.blk_alloc B6 (.cells #[.int .i64 0, .int .i64 0, .int .i64 0] 23)
            refine hK.out _ _ HSC2 ?_
            clear hK KK HSC
            have HSC := HSC2
            clear HSC2
            try simp only [Act.put, List.setIfInBounds_toArray, List.set_cons_zero, List.set_cons_succ]
            refine Rg.Upto.one (i := 12) rfl (by kernel_rfl) (by rfl) (fun KK hK => ?_)
            go_simp
            refine hK.out _ _ (heap5 w _ _ _ _ _).1 ?_
            clear hK KK
            try simp only [Act.put, List.setIfInBounds_toArray, List.set_cons_zero, List.set_cons_succ]
            refine Rg.Upto.one (i := 13) rfl (by kernel_rfl) (by rfl) (fun KK hK => ?_)
            go_simp
            refine hK.out _ _ (heap5 w _ _ _ _ _).1 ?_
            clear hK KK
            try simp only [Act.put, List.setIfInBounds_toArray, List.set_cons_zero, List.set_cons_succ]
            refine Rg.Upto.one (i := 14) rfl (by kernel_rfl) (by rfl) (fun KK hK => ?_)
            go_simp
            refine hK.out _ _ (heap5 w _ _ _ _ _).1 ?_
            clear hK KK
            try simp only [Act.put, List.setIfInBounds_toArray, List.set_cons_zero, List.set_cons_succ]
            refine Rg.Upto.one (i := 15) rfl (by kernel_rfl) (by rfl) (fun KK hK => ?_)
            go_simp
            refine hK.out _ _ (heap5 w _ _ _ _ _).1 ?_
            clear hK KK
            try simp only [Act.put, List.setIfInBounds_toArray, List.set_cons_zero, List.set_cons_succ]
            refine Rg.Upto.done (by kernel_rfl) ?_
            clear HSC B3 B4 B5 B6
            go_wp2_with (fail)
            go_meet
            have hh := heap5 w (.cells #[.int .i64 a0, .int .i64 a1, .int .i64 a2, .int .i64 a3, .int .i64 a4, .int .i64 a5, .int .i64 a6, .int .i64 a7, .int .i64 a8, .int .i64 a9, .int .i64 a10, .int .i64 a11, .int .i64 a12, .int .i64 a13, .int .i64 a14, .int .i64 a15] 27) (.cells #[.int .i64 a6, .int .i64 a7, .int .i64 a8, .int .i64 a9, .int .i64 a10] 25) (.cells #[.int .i64 a0, .int .i64 a1, .int .i64 a2] 23) (.cells #[.int .i64 a11, .int .i64 a12, .int .i64 a13, .int .i64 a14, .int .i64 a15] 25) (.cells #[.int .i64 a3, .int .i64 a4, .int .i64 a5] 23)
            exact ⟨w.heap.size + 1 + 1, w.heap.size + 1 + 1 + 1 + 1, w.heap.size + 1, w.heap.size + 1 + 1 + 1, rfl, rfl, rfl, rfl, Lib.hid hh.2.2.1, Lib.hid hh.2.2.2.2, Lib.hid hh.2.1, Lib.hid hh.2.2.2.1, Lib.hid (heap5b w _ _ _ _ _)⟩
      · refine ⟨_, rfl, rfl, fun KK hK => ?_⟩
        go_simp
        have HSC2 := Hp.blk_alloc HSC (.cells #[.int .i64 0, .int .i64 0, .int .i64 0] 23)
        have B4 := new_at HSC (.cells #[.int .i64 0, .int .i64 0, .int .i64 0] 23) (n := w.heap.size + 2) (by simp)
        replace B5 := Hp.blk_alloc B5 (.cells #[.int .i64 0, .int .i64 0, .int .i64 0] 23)
        refine hK.out _ _ HSC2 ?_
        clear hK KK HSC
        have HSC := HSC2
        clear HSC2
        try simp only [Act.put, List.setIfInBounds_toArray, List.set_cons_zero, List.set_cons_succ]
        refine Rg.Upto.cases (L := [8, 11]) (by kernel_rfl) (by simp) (fun i hi => ?_)
        simp only [List.mem_cons, List.not_mem_nil, or_false] at hi
        rcases hi with rfl | rfl
        · refine ⟨_, rfl, rfl, fun KK hK => ?_⟩
          go_simp
          have HSC2 := Hp.blk_alloc HSC (.cells #[.int .i64 0, .int .i64 0, .int .i64 0] 23)
          have B3 := new_at HSC (.cells #[.int .i64 0, .int .i64 0, .int .i64 0] 23) (n := w.heap.size + 3) (by simp)
          replace B5 := Hp.blk_alloc B5 (.cells #[.int .i64 0, .int .i64 0, .int .i64 0] 23)
          replace B4 := Hp.blk_alloc B4 (.cells #[.int .i64 0, .int .i64 0, .int .i64 0] 23)
          refine hK.out _ _ HSC2 ?_
          clear hK KK HSC
          have HSC := HSC2
          clear HSC2
          try simp only [Act.put, List.setIfInBounds_toArray, List.set_cons_zero, List.set_cons_succ]
          refine Rg.Upto.cases (L := [11]) (by kernel_rfl) (by simp) (fun i hi => ?_)
          simp only [List.mem_cons, List.not_mem_nil, or_false] at hi
          subst hi
          · refine ⟨_, rfl, rfl, fun KK hK => ?_⟩
            go_simp
            have HSC2 := Hp.blk_alloc HSC (.cells #[.int .i64 0, .int .i64 0, .int .i64 0, .int .i64 0, .int .i64 0] 25)
            have B6 := new_at HSC (.cells #[.int .i64 0, .int .i64 0, .int .i64 0, .int .i64 0, .int .i64 0] 25) (n := w.heap.size + 4) (by simp)
            replace B5 := Hp.blk_alloc B5 (.cells #[.int .i64 0, .int .i64 0, .int .i64 0, .int .i64 0, .int .i64 0] 25)
            replace B4 := Hp.blk_alloc B4 (.cells #[.int .i64 0, .int .i64 0, .int .i64 0, .int .i64 0, .int .i64 0] 25)
            replace B3 := Hp.blk_alloc B3 (.cells #[.int .i64 0, .int .i64 0, .int .i64 0, .int .i64 0, .int .i64 0] 25)
            refine hK.out _ _ HSC2 ?_
            clear hK KK HSC
            have HSC := HSC2
            clear HSC2
            try simp only [Act.put, List.setIfInBounds_toArray, List.set_cons_zero, List.set_cons_succ]
            refine Rg.Upto.one (i := 12) rfl (by kernel_rfl) (by rfl) (fun KK hK => ?_)
            go_simp
            refine hK.out _ _ (heap5 w _ _ _ _ _).1 ?_
            clear hK KK
            try simp only [Act.put, List.setIfInBounds_toArray, List.set_cons_zero, List.set_cons_succ]
            refine Rg.Upto.one (i := 13) rfl (by kernel_rfl) (by rfl) (fun KK hK => ?_)
            go_simp
            refine hK.out _ _ (heap5 w _ _ _ _ _).1 ?_
            clear hK KK
            try simp only [Act.put, List.setIfInBounds_toArray, List.set_cons_zero, List.set_cons_succ]
            refine Rg.Upto.one (i := 14) rfl (by kernel_rfl) (by rfl) (fun KK hK => ?_)
            go_simp
            refine hK.out _ _ (heap5 w _ _ _ _ _).1 ?_
            clear hK KK
            try simp only [Act.put, List.setIfInBounds_toArray, List.set_cons_zero, List.set_cons_succ]
            refine Rg.Upto.one (i := 15) rfl (by kernel_rfl) (by rfl) (fun KK hK => ?_)
            go_simp
            refine hK.out _ _ (heap5 w _ _ _ _ _).1 ?_
            clear hK KK
            try simp only [Act.put, List.setIfInBounds_toArray, List.set_cons_zero, List.set_cons_succ]
            refine Rg.Upto.done (by kernel_rfl) ?_
            clear HSC B3 B4 B5 B6
            go_wp2_with (fail)
            go_meet
            have hh := heap5 w (.cells #[.int .i64 a0, .int .i64 a1, .int .i64 a2, .int .i64 a3, .int .i64 a4, .int .i64 a5, .int .i64 a6, .int .i64 a7, .int .i64 a8, .int .i64 a9, .int .i64 a10, .int .i64 a11, .int .i64 a12, .int .i64 a13, .int .i64 a14, .int .i64 a15] 27) (.cells #[.int .i64 a6, .int .i64 a7, .int .i64 a8, .int .i64 a9, .int .i64 a10] 25) (.cells #[.int .i64 a3, .int .i64 a4, .int .i64 a5] 23) (.cells #[.int .i64 a0, .int .i64 a1, .int .i64 a2] 23) (.cells #[.int .i64 a11, .int .i64 a12, .int .i64 a13, .int .i64 a14, .int .i64 a15] 25)
            exact ⟨w.heap.size + 1 + 1 + 1, w.heap.size + 1 + 1, w.heap.size + 1, w.heap.size + 1 + 1 + 1 + 1, rfl, rfl, rfl, rfl, Lib.hid hh.2.2.2.1, Lib.hid hh.2.2.1, Lib.hid hh.2.1, Lib.hid hh.2.2.2.2, Lib.hid (heap5b w _ _ _ _ _)⟩
        · refine ⟨_, rfl, rfl, fun KK hK => ?_⟩
          go_simp
          have HSC2 := Hp.blk_alloc HSC (.cells #[.int .i64 0, .int .i64 0, .int .i64 0, .int .i64 0, .int .i64 0] 25)
          have B6 := new_at HSC (.cells #[.int .i64 0, .int .i64 0, .int .i64 0, .int .i64 0, .int .i64 0] 25) (n := w.heap.size + 3) (by simp)
          replace B5 := Hp.blk_alloc B5 (.cells #[.int .i64 0, .int .i64 0, .int .i64 0, .int .i64 0, .int .i64 0] 25)
          replace B4 := Hp.blk_alloc B4 (.cells #[.int .i64 0, .int .i64 0, .int .i64 0, .int .i64 0, .int .i64 0] 25)
          refine hK.out _ _ HSC2 ?_
          clear hK KK HSC
          have HSC := HSC2
          clear HSC2
          try simp only [Act.put, List.setIfInBounds_toArray, List.set_cons_zero, List.set_cons_succ]
          refine Rg.Upto.cases (L := [8]) (by kernel_rfl) (by simp) (fun i hi => ?_)
          simp only [List.mem_cons, List.not_mem_nil, or_false] at hi
          subst hi
          · refine ⟨_, rfl, rfl, fun KK hK => ?_⟩
            go_simp
            have HSC2 := Hp.blk_alloc HSC (.cells #[.int .i64 0, .int .i64 0, .int .i64 0] 23)
            have B3 := new_at HSC (.cells #[.int .i64 0, .int .i64 0, .int .i64 0] 23) (n := w.heap.size + 4) (by simp)
            replace B5 := Hp.blk_alloc B5 (.cells #[.int .i64 0, .int .i64 0, .int .i64 0] 23)
            replace B4 := Hp.blk_alloc B4 (.cells #[.int .i64 0, .int .i64 0, .int .i64 0] 23)
            replace B6 := Hp.blk_alloc B6 (.cells #[.int .i64 0, .int .i64 0, .int .i64 0] 23)
            refine hK.out _ _ HSC2 ?_
            clear hK KK HSC
            have HSC := HSC2
            clear HSC2
            try simp only [Act.put, List.setIfInBounds_toArray, List.set_cons_zero, List.set_cons_succ]
            refine Rg.Upto.one (i := 12) rfl (by kernel_rfl) (by rfl) (fun KK hK => ?_)
            go_simp
            refine hK.out _ _ (heap5 w _ _ _ _ _).1 ?_
            clear hK KK
            try simp only [Act.put, List.setIfInBounds_toArray, List.set_cons_zero, List.set_cons_succ]
            refine Rg.Upto.one (i := 13) rfl (by kernel_rfl) (by rfl) (fun KK hK => ?_)
            go_simp
            refine hK.out _ _ (heap5 w _ _ _ _ _).1 ?_
            clear hK KK
            try simp only [Act.put, List.setIfInBounds_toArray, List.set_cons_zero, List.set_cons_succ]
            refine Rg.Upto.one (i := 14) rfl (by kernel_rfl) (by rfl) (fun KK hK => ?_)
            go_simp
            refine hK.out _ _ (heap5 w _ _ _ _ _).1 ?_
            clear hK KK
            try simp only [Act.put, List.setIfInBounds_toArray, List.set_cons_zero, List.set_cons_succ]
            refine Rg.Upto.one (i := 15) rfl (by kernel_rfl) (by rfl) (fun KK hK => ?_)
            go_simp
            refine hK.out _ _ (heap5 w _ _ _ _ _).1 ?_
            clear hK KK
            try simp only [Act.put, List.setIfInBounds_toArray, List.set_cons_zero, List.set_cons_succ]
            refine Rg.Upto.done (by kernel_rfl) ?_
            clear HSC B3 B4 B5 B6
            go_wp2_with (fail)
            go_meet
            have hh := heap5 w (.cells #[.int .i64 a0, .int .i64 a1, .int .i64 a2, .int .i64 a3, .int .i64 a4, .int .i64 a5, .int .i64 a6, .int .i64 a7, .int .i64 a8, .int .i64 a9, .int .i64 a10, .int .i64 a11, .int .i64 a12, .int .i64 a13, .int .i64 a14, .int .i64 a15] 27) (.cells #[.int .i64 a6, .int .i64 a7, .int .i64 a8, .int .i64 a9, .int .i64 a10] 25) (.cells #[.int .i64 a3, .int .i64 a4, .int .i64 a5] 23) (.cells #[.int .i64 a11, .int .i64 a12, .int .i64 a13, .int .i64 a14, .int .i64 a15] 25) (.cells #[.int .i64 a0, .int .i64 a1, .int .i64 a2] 23)
            exact ⟨w.heap.size + 1 + 1 + 1 + 1, w.heap.size + 1 + 1, w.heap.size + 1, w.heap.size + 1 + 1 + 1, rfl, rfl, rfl, rfl, Lib.hid hh.2.2.2.2, Lib.hid hh.2.2.1, Lib.hid hh.2.1, Lib.hid hh.2.2.2.1, Lib.hid (heap5b w _ _ _ _ _)⟩
      · refine ⟨_, rfl, rfl, fun KK hK => ?_⟩
        go_simp
        have HSC2 := Hp.blk_alloc HSC (.cells #[.int .i64 0, .int .i64 0, .int .i64 0, .int .i64 0, .int .i64 0] 25)
        have B6 := new_at HSC (.cells #[.int .i64 0, .int .i64 0, .int .i64 0, .int .i64 0, .int .i64 0] 25) (n := w.heap.size + 2) (by simp)
        replace B5 := Hp.blk_alloc B5 (.cells #[.int .i64 0, .int .i64 0, .int .i64 0, .int .i64 0, .int .i64 0] 25)
        refine hK.out _ _ HSC2 ?_
        clear hK KK HSC
        have HSC := HSC2
        clear HSC2
        try simp only [Act.put, List.setIfInBounds_toArray, List.set_cons_zero, List.set_cons_succ]
        refine Rg.Upto.cases (L := [8, 9]) (by kernel_rfl) (by simp) (fun i hi => ?_)
        simp only [List.mem_cons, List.not_mem_nil, or_false] at hi
        rcases hi with rfl | rfl
        · refine ⟨_, rfl, rfl, fun KK hK => ?_⟩
          go_simp
          have HSC2 := Hp.blk_alloc HSC (.cells #[.int .i64 0, .int .i64 0, .int .i64 0] 23)
          have B3 := new_at HSC (.cells #[.int .i64 0, .int .i64 0, .int .i64 0] 23) (n := w.heap.size + 3) (by simp)
          replace B5 := Hp.blk_alloc B5 (.cells #[.int .i64 0, .int .i64 0, .int .i64 0] 23)
          replace B6 := Hp.blk_alloc B6 (.cells #[.int .i64 0, .int .i64 0, .int .i64 0] 23)
          refine hK.out _ _ HSC2 ?_
          clear hK KK HSC
          have HSC := HSC2
          clear HSC2
          try simp only [Act.put, List.setIfInBounds_toArray, List.set_cons_zero, List.set_cons_succ]
          refine Rg.Upto.cases (L := [9]) (by kernel_rfl) (by simp) (fun i hi => ?_)
          simp only [List.mem_cons, List.not_mem_nil, or_false] at hi
          subst hi
          · refine ⟨_, rfl, rfl, fun KK hK => ?_⟩
            go_simp
            have HSC2 := Hp.blk_alloc HSC (.cells #[.int .i64 0, .int .i64 0, .int .i64 0] 23)
            have B4 := new_at HSC (.cells #[.int .i64 0, .int .i64 0, .int .i64 0] 23) (n := w.heap.size + 4) (by simp)
            replace B5 := Hp.blk_alloc B5 (.cells #[.int .i64 0, .int .i64 0, .int .i64 0] 23)
            replace B6 := Hp.blk_alloc B6 (.cells #[.int .i64 0, .int .i64 0, .int .i64 0] 23)
            replace B3 := Hp.blk_alloc B3 (.cells #[.int .i64 0, .int .i64 0, .int .i64 0] 23)
            refine hK.out _ _ HSC2 ?_
            clear hK KK HSC
            have HSC := HSC2
            clear HSC2
            try simp only [Act.put, List.setIfInBounds_toArray, List.set_cons_zero, List.set_cons_succ]
            refine Rg.Upto.one (i := 12) rfl (by kernel_rfl) (by rfl) (fun KK hK => ?_)
            go_simp
            refine hK.out _ _ (heap5 w _ _ _ _ _).1 ?_
            clear hK KK
            try simp only [Act.put, List.setIfInBounds_toArray, List.set_cons_zero, List.set_cons_succ]
            refine Rg.Upto.one (i := 13) rfl (by kernel_rfl) (by rfl) (fun KK hK => ?_)
            go_simp
            refine hK.out _ _ (heap5 w _ _ _ _ _).1 ?_
            clear hK KK
            try simp only [Act.put, List.setIfInBounds_toArray, List.set_cons_zero, List.set_cons_succ]
            refine Rg.Upto.one (i := 14) rfl (by kernel_rfl) (by rfl) (fun KK hK => ?_)
            go_simp
            refine hK.out _ _ (heap5 w _ _ _ _ _).1 ?_
            clear hK KK
            try simp only [Act.put, List.setIfInBounds_toArray, List.set_cons_zero, List.set_cons_succ]
            refine Rg.Upto.one (i := 15) rfl (by kernel_rfl) (by rfl) (fun KK hK => ?_)
            go_simp
            refine hK.out _ _ (heap5 w _ _ _ _ _).1 ?_
            clear hK KK
            try simp only [Act.put, List.setIfInBounds_toArray, List.set_cons_zero, List.set_cons_succ]
            refine Rg.Upto.done (by kernel_rfl) ?_
            clear HSC B3 B4 B5 B6
            go_wp2_with (fail)
            go_meet
            have hh := heap5 w (.cells #[.int .i64 a0, .int .i64 a1, .int .i64 a2, .int .i64 a3, .int .i64 a4, .int .i64 a5, .int .i64 a6, .int .i64 a7, .int .i64 a8, .int .i64 a9, .int .i64 a10, .int .i64 a11, .int .i64 a12, .int .i64 a13, .int .i64 a14, .int .i64 a15] 27) (.cells #[.int .i64 a6, .int .i64 a7, .int .i64 a8, .int .i64 a9, .int .i64 a10] 25) (.cells #[.int .i64 a11, .int .i64 a12, .int .i64 a13, .int .i64 a14, .int .i64 a15] 25) (.cells #[.int .i64 a0, .int .i64 a1, .int .i64 a2] 23) (.cells #[.int .i64 a3, .int .i64 a4, .int .i64 a5] 23)
            exact ⟨w.heap.size + 1 + 1 + 1, w.heap.size + 1 + 1 + 1 + 1, w.heap.size + 1, w.heap.size + 1 + 1, rfl, rfl, rfl, rfl, Lib.hid hh.2.2.2.1, Lib.hid hh.2.2.2.2, Lib.hid hh.2.1, Lib.hid hh.2.2.1, Lib.hid (heap5b w _ _ _ _ _)⟩
        · refine ⟨_, rfl, rfl, fun KK hK => ?_⟩
          go_simp
          have HSC2 := Hp.blk_alloc HSC (.cells #[.int .i64 0, .int .i64 0, .int .i64 0] 23)
          have B4 := new_at HSC (.cells #[.int .i64 0, .int .i64 0, .int .i64 0] 23) (n := w.heap.size + 3) (by simp)
          replace B5 := Hp.blk_alloc B5 (.cells #[.int .i64 0, .int .i64 0, .int .i64 0] 23)
          replace B6 := Hp.blk_alloc B6 (.cells #[.int .i64 0, .int .i64 0, .int .i64 0] 23)
          refine hK.out _ _ HSC2 ?_
          clear hK KK HSC
          have HSC := HSC2
          clear HSC2
          try simp only [Act.put, List.setIfInBounds_toArray, List.set_cons_zero, List.set_cons_succ]
          refine Rg.Upto.cases (L := [8]) (by kernel_rfl) (by simp) (fun i hi => ?_)
          simp only [List.mem_cons, List.not_mem_nil, or_false] at hi
          subst hi
          · refine ⟨_, rfl, rfl, fun KK hK => ?_⟩
            go_simp
            have HSC2 := Hp.blk_alloc HSC (.cells #[.int .i64 0, .int .i64 0, .int .i64 0] 23)
            have B3 := new_at HSC (.cells #[.int .i64 0, .int .i64 0, .int .i64 0] 23) (n := w.heap.size + 4) (by simp)
            replace B5 := Hp.blk_alloc B5 (.cells #[.int .i64 0, .int .i64 0, .int .i64 0] 23)
            replace B6 := Hp.blk_alloc B6 (.cells #[.int .i64 0, .int .i64 0, .int .i64 0] 23)
            replace B4 := Hp.blk_alloc B4 (.cells #[.int .i64 0, .int .i64 0, .int .i64 0] 23)
            refine hK.out _ _ HSC2 ?_
            clear hK KK HSC
            have HSC := HSC2
            clear HSC2
            try simp only [Act.put, List.setIfInBounds_toArray, List.set_cons_zero, List.set_cons_succ]
            refine Rg.Upto.one (i := 12) rfl (by kernel_rfl) (by rfl) (fun KK hK => ?_)
            go_simp
            refine hK.out _ _ (heap5 w _ _ _ _ _).1 ?_
            clear hK KK
            try simp only [Act.put, List.setIfInBounds_toArray, List.set_cons_zero, List.set_cons_succ]
            refine Rg.Upto.one (i := 13) rfl (by kernel_rfl) (by rfl) (fun KK hK => ?_)
            go_simp
            refine hK.out _ _ (heap5 w _ _ _ _ _).1 ?_
            clear hK KK
            try simp only [Act.put, List.setIfInBounds_toArray, List.set_cons_zero, List.set_cons_succ]
            refine Rg.Upto.one (i := 14) rfl (by kernel_rfl) (by rfl) (fun KK hK => ?_)
            go_simp
            refine hK.out _ _ (heap5 w _ _ _ _ _).1 ?_
            clear hK KK
            try simp only [Act.put, List.setIfInBounds_toArray, List.set_cons_zero, List.set_cons_succ]
            refine Rg.Upto.one (i := 15) rfl (by kernel_rfl) (by rfl) (fun KK hK => ?_)
            go_simp
            refine hK.out _ _ (heap5 w _ _ _ _ _).1 ?_
            clear hK KK
            try simp only [Act.put, List.setIfInBounds_toArray, List.set_cons_zero, List.set_cons_succ]
            refine Rg.Upto.done (by kernel_rfl) ?_
            clear HSC B3 B4 B5 B6
            go_wp2_with (fail)
            go_meet
            have hh := heap5 w (.cells #[.int .i64 a0, .int .i64 a1, .int .i64 a2, .int .i64 a3, .int .i64 a4, .int .i64 a5, .int .i64 a6, .int .i64 a7, .int .i64 a8, .int .i64 a9, .int .i64 a10, .int .i64 a11, .int .i64 a12, .int .i64 a13, .int .i64 a14, .int .i64 a15] 27) (.cells #[.int .i64 a6, .int .i64 a7, .int .i64 a8, .int .i64 a9, .int .i64 a10] 25) (.cells #[.int .i64 a11, .int .i64 a12, .int .i64 a13, .int .i64 a14, .int .i64 a15] 25) (.cells #[.int .i64 a3, .int .i64 a4, .int .i64 a5] 23) (.cells #[.int .i64 a0, .int .i64 a1, .int .i64 a2] 23)
            exact ⟨w.heap.size + 1 + 1 + 1 + 1, w.heap.size + 1 + 1 + 1, w.heap.size + 1, w.heap.size + 1 + 1, rfl, rfl, rfl, rfl, Lib.hid hh.2.2.2.2, Lib.hid hh.2.2.2.1, Lib.hid hh.2.1, Lib.hid hh.2.2.1, Lib.hid (heap5b w _ _ _ _ _)⟩
    · refine ⟨_, rfl, rfl, fun KK hK => ?_⟩
      go_simp
      have HSC2 := Hp.blk_alloc HSC (.cells #[.int .i64 0, .int .i64 0, .int .i64 0, .int .i64 0, .int .i64 0] 25)
      have B6 := new_at HSC (.cells #[.int .i64 0, .int .i64 0, .int .i64 0, .int .i64 0, .int .i64 0] 25) (n := w.heap.size + 1) (by simp)
      refine hK.out _ _ HSC2 ?_
      clear hK KK HSC
      have HSC := HSC2
      clear HSC2
      try simp only [Act.put, List.setIfInBounds_toArray, List.set_cons_zero, List.set_cons_succ]
      refine Rg.Upto.cases (L := [8, 9, 10]) (by kernel_rfl) (by simp) (fun i hi => ?_)
      simp only [List.mem_cons, List.not_mem_nil, or_false] at hi
      rcases hi with rfl | rfl | rfl
      · refine ⟨_, rfl, rfl, fun KK hK => ?_⟩
        go_simp
        have HSC2 := Hp.blk_alloc HSC (.cells #[.int .i64 0, .int .i64 0, .int .i64 0] 23)
        have B3 := new_at HSC (.cells #[.int .i64 0, .int .i64 0, .int .i64 0] 23) (n := w.heap.size + 2) (by simp)
        replace B6 := Hp.blk_alloc B6 (.cells #[.int .i64 0, .int .i64 0, .int .i64 0] 23)
        refine hK.out _ _ HSC2 ?_
        clear hK KK HSC
        have HSC := HSC2
        clear HSC2
        try simp only [Act.put, List.setIfInBounds_toArray, List.set_cons_zero, List.set_cons_succ]
        refine Rg.Upto.cases (L := [9, 10]) (by kernel_rfl) (by simp) (fun i hi => ?_)
        simp only [List.mem_cons, List.not_mem_nil, or_false] at hi
        rcases hi with rfl | rfl
        · refine ⟨_, rfl, rfl, fun KK hK => ?_⟩
          go_simp
          have HSC2 := Hp.blk_alloc HSC (.cells #[.int .i64 0, .int .i64 0, .int .i64 0] 23)
          have B4 := new_at HSC (.cells #[.int .i64 0, .int .i64 0, .int .i64 0] 23) (n := w.heap.size + 3) (by simp)
          replace B6 := Hp.blk_alloc B6 (.cells #[.int .i64 0, .int .i64 0, .int .i64 0] 23)
          replace B3 := Hp.blk_alloc B3 (.cells #[.int .i64 0, .int .i64 0, .int .i64 0] 23)
          refine hK.out _ _ HSC2 ?_
          clear hK KK HSC
          have HSC := HSC2
          clear HSC2
          try simp only [Act.put, List.setIfInBounds_toArray, List.set_cons_zero, List.set_cons_succ]
          refine Rg.Upto.cases (L := [10]) (by kernel_rfl) (by simp) (fun i hi => ?_)
          simp only [List.mem_cons, List.not_mem_nil, or_false] at hi
          subst hi
          · refine ⟨_, rfl, rfl, fun KK hK => ?_⟩
            go_simp
            have HSC2 := Hp.blk_alloc HSC (.cells #[.int .i64 0, .int .i64 0, .int .i64 0, .int .i64 0, .int .i64 0] 25)
            have B5 := new_at HSC (.cells #[.int .i64 0, .int .i64 0, .int .i64 0, .int .i64 0, .int .i64 0] 25) (n := w.heap.size + 4) (by simp)
            replace B6 := Hp.blk_alloc B6 (.cells #[.int .i64 0, .int .i64 0, .int .i64 0, .int .i64 0, .int .i64 0] 25)
            replace B3 := Hp.blk_alloc B3 (.cells #[.int .i64 0, .int .i64 0, .int .i64 0, .int .i64 0, .int .i64 0] 25)
            replace B4 := Hp.blk_alloc B4 (.cells #[.int .i64 0, .int .i64 0, .int .i64 0, .int .i64 0, .int .i64 0] 25)
            refine hK.out _ _ HSC2 ?_
            clear hK KK HSC
            have HSC := HSC2
            clear HSC2
            try simp only [Act.put, List.setIfInBounds_toArray, List.set_cons_zero, List.set_cons_succ]
            refine Rg.Upto.one (i := 12) rfl (by kernel_rfl) (by rfl) (fun KK hK => ?_)
            go_simp
            refine hK.out _ _ (heap5 w _ _ _ _ _).1 ?_
            clear hK KK
            try simp only [Act.put, List.setIfInBounds_toArray, List.set_cons_zero, List.set_cons_succ]
            refine Rg.Upto.one (i := 13) rfl (by kernel_rfl) (by rfl) (fun KK hK => ?_)
            go_simp
            refine hK.out _ _ (heap5 w _ _ _ _ _).1 ?_
            clear hK KK
            try simp only [Act.put, List.setIfInBounds_toArray, List.set_cons_zero, List.set_cons_succ]
            refine Rg.Upto.one (i := 14) rfl (by kernel_rfl) (by rfl) (fun KK hK => ?_)
            go_simp
            refine hK.out _ _ (heap5 w _ _ _ _ _).1 ?_
            clear hK KK
            try simp only [Act.put, List.setIfInBounds_toArray, List.set_cons_zero, List.set_cons_succ]
            refine Rg.Upto.one (i := 15) rfl (by kernel_rfl) (by rfl) (fun KK hK => ?_)
            go_simp
            refine hK.out _ _ (heap5 w _ _ _ _ _).1 ?_
            clear hK KK
            try simp only [Act.put, List.setIfInBounds_toArray, List.set_cons_zero, List.set_cons_succ]
            refine Rg.Upto.done (by kernel_rfl) ?_
            clear HSC B3 B4 B5 B6
            go_wp2_with (fail)
            go_meet
            have hh := heap5 w (.cells #[.int .i64 a0, .int .i64 a1, .int .i64 a2, .int .i64 a3, .int .i64 a4, .int .i64 a5, .int .i64 a6, .int .i64 a7, .int .i64 a8, .int .i64 a9, .int .i64 a10, .int .i64 a11, .int .i64 a12, .int .i64 a13, .int .i64 a14, .int .i64 a15] 27) (.cells #[.int .i64 a11, .int .i64 a12, .int .i64 a13, .int .i64 a14, .int .i64 a15] 25) (.cells #[.int .i64 a0, .int .i64 a1, .int .i64 a2] 23) (.cells #[.int .i64 a3, .int .i64 a4, .int .i64 a5] 23) (.cells #[.int .i64 a6, .int .i64 a7, .int .i64 a8, .int .i64 a9, .int .i64 a10] 25)
            exact ⟨w.heap.size + 1 + 1, w.heap.size + 1 + 1 + 1, w.heap.size + 1 + 1 + 1 + 1, w.heap.size + 1, rfl, rfl, rfl, rfl, Lib.hid hh.2.2.1, Lib.hid hh.2.2.2.1, Lib.hid hh.2.2.2.2, Lib.hid hh.2.1, Lib.hid (heap5b w _ _ _ _ _)⟩
        · refine ⟨_, rfl, rfl, fun KK hK => ?_⟩
          go_simp
          have HSC2 := Hp.blk_alloc HSC (.cells #[.int .i64 0, .int .i64 0, .int .i64 0, .int .i64 0, .int .i64 0] 25)
          have B5 := new_at HSC (.cells #[.int .i64 0, .int .i64 0, .int .i64 0, .int .i64 0, .int .i64 0] 25) (n := w.heap.size + 3) (by simp)
          replace B6 := Hp.blk_alloc B6 (.cells #[.int .i64 0, .int .i64 0, .int .i64 0, .int .i64 0, .int .i64 0] 25)
          replace B3 := Hp.blk_alloc B3 (.cells #[.int .i64 0, .int .i64 0, .int .i64 0, .int .i64 0, .int .i64 0] 25)
          refine hK.out _ _ HSC2 ?_
          clear hK KK HSC
          have HSC := HSC2
          clear HSC2
          try simp only [Act.put, List.setIfInBounds_toArray, List.set_cons_zero, List.set_cons_succ]
          refine Rg.Upto.cases (L := [9]) (by kernel_rfl) (by simp) (fun i hi => ?_)
          simp only [List.mem_cons, List.not_mem_nil, or_false] at hi
          subst hi
          · refine ⟨_, rfl, rfl, fun KK hK => ?_⟩
            go_simp
            have HSC2 := Hp.blk_alloc HSC (.cells #[.int .i64 0, .int .i64 0, .int .i64 0] 23)
            have B4 := new_at HSC (.cells #[.int .i64 0, .int .i64 0, .int .i64 0] 23) (n := w.heap.size + 4) (by simp)
            replace B6 := Hp.blk_alloc B6 (.cells #[.int .i64 0, .int .i64 0, .int .i64 0] 23)
            replace B3 := Hp.blk_alloc B3 (.cells #[.int .i64 0, .int .i64 0, .int .i64 0] 23)
            replace B5 := Hp.blk_alloc B5 (.cells #[.int .i64 0, .int .i64 0, .int .i64 0] 23)
            refine hK.out _ _ HSC2 ?_
            clear hK KK HSC
            have HSC := HSC2
            clear HSC2
            try simp only [Act.put, List.setIfInBounds_toArray, List.set_cons_zero, List.set_cons_succ]
            refine Rg.Upto.one (i := 12) rfl (by kernel_rfl) (by rfl) (fun KK hK => ?_)
            go_simp
            refine hK.out _ _ (heap5 w _ _ _ _ _).1 ?_
            clear hK KK
            try simp only [Act.put, List.setIfInBounds_toArray, List.set_cons_zero, List.set_cons_succ]
            refine Rg.Upto.one (i := 13) rfl (by kernel_rfl) (by rfl) (fun KK hK => ?_)
            go_simp
            refine hK.out _ _ (heap5 w _ _ _ _ _).1 ?_
            clear hK KK
            try simp only [Act.put, List.setIfInBounds_toArray, List.set_cons_zero, List.set_cons_succ]
            refine Rg.Upto.one (i := 14) rfl (by kernel_rfl) (by rfl) (fun KK hK => ?_)
            go_simp
            refine hK.out _ _ (heap5 w _ _ _ _ _).1 ?_
            clear hK KK
            try simp only [Act.put, List.setIfInBounds_toArray, List.set_cons_zero, List.set_cons_succ]
            refine Rg.Upto.one (i := 15) rfl (by kernel_rfl) (by rfl) (fun KK hK => ?_)
            go_simp
            refine hK.out _ _ (heap5 w _ _ _ _ _).1 ?_
            clear hK KK
            try simp only [Act.put, List.setIfInBounds_toArray, List.set_cons_zero, List.set_cons_succ]
            refine Rg.Upto.done (by kernel_rfl) ?_
            clear HSC B3 B4 B5 B6
            go_wp2_with (fail)
            go_meet
            have hh := heap5 w (.cells #[.int .i64 a0, .int .i64 a1, .int .i64 a2, .int .i64 a3, .int .i64 a4, .int .i64 a5, .int .i64 a6, .int .i64 a7, .int .i64 a8, .int .i64 a9, .int .i64 a10, .int .i64 a11, .int .i64 a12, .int .i64 a13, .int .i64 a14, .int .i64 a15] 27) (.cells #[.int .i64 a11, .int .i64 a12, .int .i64 a13, .int .i64 a14, .int .i64 a15] 25) (.cells #[.int .i64 a0, .int .i64 a1, .int .i64 a2] 23) (.cells #[.int .i64 a6, .int .i64 a7, .int .i64 a8, .int .i64 a9, .int .i64 a10] 25) (.cells #[.int .i64 a3, .int .i64 a4, .int .i64 a5] 23)
            exact ⟨w.heap.size + 1 + 1, w.heap.size + 1 + 1 + 1 + 1, w.heap.size + 1 + 1 + 1, w.heap.size + 1, rfl, rfl, rfl, rfl, Lib.hid hh.2.2.1, Lib.hid hh.2.2.2.2, Lib.hid hh.2.2.2.1, Lib.hid hh.2.1, Lib.hid (heap5b w _ _ _ _ _)⟩
      · refine ⟨_, rfl, rfl, fun KK hK => ?_⟩
        go_simp
        have HSC2 := Hp.blk_alloc HSC (.cells #[.int .i64 0, .int .i64 0, .int .i64 0] 23)
        have B4 := new_at HSC (.cells #[.int .i64 0, .int .i64 0, .int .i64 0] 23) (n := w.heap.size + 2) (by simp)
        replace B6 := Hp.blk_alloc B6 (.cells #[.int .i64 0, .int .i64 0, .int .i64 0] 23)
        refine hK.out _ _ HSC2 ?_
        clear hK KK HSC
        have HSC := HSC2
        clear HSC2
        try simp only [Act.put, List.setIfInBounds_toArray, List.set_cons_zero, List.set_cons_succ]
        refine Rg.Upto.cases (L := [8, 10]) (by kernel_rfl) (by simp) (fun i hi => ?_)
        simp only [List.mem_cons, List.not_mem_nil, or_false] at hi
        rcases hi with rfl | rfl
        · refine ⟨_, rfl, rfl, fun KK hK => ?_⟩
          go_simp
          have HSC2 := Hp.blk_alloc HSC (.cells #[.int .i64 0, .int .i64 0, .int .i64 0] 23)
          have B3 := new_at HSC (.cells #[.int .i64 0, .int .i64 0, .int .i64 0] 23) (n := w.heap.size + 3) (by simp)
          replace B6 := Hp.blk_alloc B6 (.cells #[.int .i64 0, .int .i64 0, .int .i64 0] 23)
          replace B4 := Hp.blk_alloc B4 (.cells #[.int .i64 0, .int .i64 0, .int .i64 0] 23)
          refine hK.out _ _ HSC2 ?_
          clear hK KK HSC
          have HSC := HSC2
          clear HSC2
          try simp only [Act.put, List.setIfInBounds_toArray, List.set_cons_zero, List.set_cons_succ]
          refine Rg.Upto.cases (L := [10]) (by kernel_rfl) (by simp) (fun i hi => ?_)
          simp only [List.mem_cons, List.not_mem_nil, or_false] at hi
          subst hi
          · refine ⟨_, rfl, rfl, fun KK hK => ?_⟩
            go_simp
            have HSC2 := Hp.blk_alloc HSC (.cells #[.int .i64 0, .int .i64 0, .int .i64 0, .int .i64 0, .int .i64 0] 25)
            have B5 := new_at HSC (.cells #[.int .i64 0, .int .i64 0, .int .i64 0, .int .i64 0, .int .i64 0] 25) (n := w.heap.size + 4) (by simp)
            replace B6 := Hp.blk_alloc B6 (.cells #[.int .i64 0, .int .i64 0, .int .i64 0, .int .i64 0, .int .i64 0] 25)
            replace B4 := Hp.blk_alloc B4 (.cells #[.int .i64 0, .int .i64 0, .int .i64 0, .int .i64 0, .int .i64 0] 25)
            replace B3 := Hp.blk_alloc B3 (.cells #[.int .i64 0, .int .i64 0, .int .i64 0, .int .i64 0, .int .i64 0] 25)
            refine hK.out _ _ HSC2 ?_
            clear hK KK HSC
            have HSC := HSC2
            clear HSC2
            try simp only [Act.put, List.setIfInBounds_toArray, List.set_cons_zero, List.set_cons_succ]
            refine Rg.Upto.one (i := 12) rfl (by kernel_rfl) (by rfl) (fun KK hK => ?_)
            go_simp
            refine hK.out _ _ (heap5 w _ _ _ _ _).1 ?_
            clear hK KK
            try simp only [Act.put, List.setIfInBounds_toArray, List.set_cons_zero, List.set_cons_succ]
            refine Rg.Upto.one (i := 13) rfl (by kernel_rfl) (by rfl) (fun KK hK => ?_)
            go_simp
            refine hK.out _ _ (heap5 w _ _ _ _ _).1 ?_
            clear hK KK
            try simp only [Act.put, List.setIfInBounds_toArray, List.set_cons_zero, List.set_cons_succ]
            refine Rg.Upto.one (i := 14) rfl (by kernel_rfl) (by rfl) (fun KK hK => ?_)
            go_simp
            refine hK.out _ _ (heap5 w _ _ _ _ _).1 ?_
            clear hK KK
            try simp only [Act.put, List.setIfInBounds_toArray, List.set_cons_zero, List.set_cons_succ]
            refine Rg.Upto.one (i := 15) rfl (by kernel_rfl) (by rfl) (fun KK hK => ?_)
            go_simp
            refine hK.out _ _ (heap5 w _ _ _ _ _).1 ?_
            clear hK KK
            try simp only [Act.put, List.setIfInBounds_toArray, List.set_cons_zero, List.set_cons_succ]
            refine Rg.Upto.done (by kernel_rfl) ?_
            clear HSC B3 B4 B5 B6
            go_wp2_with (fail)
            go_meet
            have hh := heap5 w (.cells #[.int .i64 a0, .int .i64 a1, .int .i64 a2, .int .i64 a3, .int .i64 a4, .int .i64 a5, .int .i64 a6, .int .i64 a7, .int .i64 a8, .int .i64 a9, .int .i64 a10, .int .i64 a11, .int .i64 a12, .int .i64 a13, .int .i64 a14, .int .i64 a15] 27) (.cells #[.int .i64 a11, .int .i64 a12, .int .i64 a13, .int .i64 a14, .int .i64 a15] 25) (.cells #[.int .i64 a3, .int .i64 a4, .int .i64 a5] 23) (.cells #[.int .i64 a0, .int .i64 a1, .int .i64 a2] 23) (.cells #[.int .i64 a6, .int .i64 a7, .int .i64 a8, .int .i64 a9, .int .i64 a10] 25)
            exact ⟨w.heap.size + 1 + 1 + 1, w.heap.size + 1 + 1, w.heap.size + 1 + 1 + 1 + 1, w.heap.size + 1, rfl, rfl, rfl, rfl, Lib.hid hh.2.2.2.1, Lib.hid hh.2.2.1, Lib.hid hh.2.2.2.2, Lib.hid hh.2.1, Lib.hid (heap5b w _ _ _ _ _)⟩
        · refine ⟨_, rfl, rfl, fun KK hK => ?_⟩
          go_simp
          have HSC2 := Hp.blk_alloc HSC (.cells #[.int .i64 0, .int .i64 0, .int .i64 0, .int .i64 0, .int .i64 0] 25)
          have B5 := new_at HSC (.cells #[.int .i64 0, .int .i64 0, .int .i64 0, .int .i64 0, .int .i64 0] 25) (n := w.heap.size + 3) (by simp)
          replace B6 := Hp.blk_alloc B6 (.cells #[.int .i64 0, .int .i64 0, .int .i64 0, .int .i64 0, .int .i64 0] 25)
          replace B4 := Hp.blk_alloc B4 (.cells #[.int .i64 0, .int .i64 0, .int .i64 0, .int .i64 0, .int .i64 0] 25)
          refine hK.out _ _ HSC2 ?_
          clear hK KK HSC
          have HSC := HSC2
          clear HSC2
          try simp only [Act.put, List.setIfInBounds_toArray, List.set_cons_zero, List.set_cons_succ]
          refine Rg.Upto.cases (L := [8]) (by kernel_rfl) (by simp) (fun i hi => ?_)
          simp only [List.mem_cons, List.not_mem_nil, or_false] at hi
          subst hi
          · refine ⟨_, rfl, rfl, fun KK hK => ?_⟩
            go_simp
            have HSC2 := Hp.blk_alloc HSC (.cells #[.int .i64 0, .int .i64 0, .int .i64 0] 23)
            have B3 := new_at HSC (.cells #[.int .i64 0, .int .i64 0, .int .i64 0] 23) (n := w.heap.size + 4) (by simp)
            replace B6 := Hp.blk_alloc B6 (.cells #[.int .i64 0, .int .i64 0, .int .i64 0] 23)
            replace B4 := Hp.blk_alloc B4 (.cells #[.int .i64 0, .int .i64 0, .int .i64 0] 23)
            replace B5 := Hp.blk_alloc B5 (.cells #[.int .i64 0, .int .i64 0, .int .i64 0] 23)
            refine hK.out _ _ HSC2 ?_
            clear hK KK HSC
            have HSC := HSC2
            clear HSC2
            try simp only [Act.put, List.setIfInBounds_toArray, List.set_cons_zero, List.set_cons_succ]
            refine Rg.Upto.one (i := 12) rfl (by kernel_rfl) (by rfl) (fun KK hK => ?_)
            go_simp
            refine hK.out _ _ (heap5 w _ _ _ _ _).1 ?_
            clear hK KK
            try simp only [Act.put, List.setIfInBounds_toArray, List.set_cons_zero, List.set_cons_succ]
            refine Rg.Upto.one (i := 13) rfl (by kernel_rfl) (by rfl) (fun KK hK => ?_)
            go_simp
            refine hK.out _ _ (heap5 w _ _ _ _ _).1 ?_
            clear hK KK
            try simp only [Act.put, List.setIfInBounds_toArray, List.set_cons_zero, List.set_cons_succ]
            refine Rg.Upto.one (i := 14) rfl (by kernel_rfl) (by rfl) (fun KK hK => ?_)
            go_simp
            refine hK.out _ _ (heap5 w _ _ _ _ _).1 ?_
            clear hK KK
            try simp only [Act.put, List.setIfInBounds_toArray, List.set_cons_zero, List.set_cons_succ]
            refine Rg.Upto.one (i := 15) rfl (by kernel_rfl) (by rfl) (fun KK hK => ?_)
            go_simp
            refine hK.out _ _ (heap5 w _ _ _ _ _).1 ?_
            clear hK KK
            try simp only [Act.put, List.setIfInBounds_toArray, List.set_cons_zero, List.set_cons_succ]
            refine Rg.Upto.done (by kernel_rfl) ?_
            clear HSC B3 B4 B5 B6
            go_wp2_with (fail)
            go_meet
            have hh := heap5 w (.cells #[.int .i64 a0, .int .i64 a1, .int .i64 a2, .int .i64 a3, .int .i64 a4, .int .i64 a5, .int .i64 a6, .int .i64 a7, .int .i64 a8, .int .i64 a9, .int .i64 a10, .int .i64 a11, .int .i64 a12, .int .i64 a13, .int .i64 a14, .int .i64 a15] 27) (.cells #[.int .i64 a11, .int .i64 a12, .int .i64 a13, .int .i64 a14, .int .i64 a15] 25) (.cells #[.int .i64 a3, .int .i64 a4, .int .i64 a5] 23) (.cells #[.int .i64 a6, .int .i64 a7, .int .i64 a8, .int .i64 a9, .int .i64 a10] 25) (.cells #[.int .i64 a0, .int .i64 a1, .int .i64 a2] 23)
            exact ⟨w.heap.size + 1 + 1 + 1 + 1, w.heap.size + 1 + 1, w.heap.size + 1 + 1 + 1, w.heap.size + 1, rfl, rfl, rfl, rfl, Lib.hid hh.2.2.2.2, Lib.hid hh.2.2.1, Lib.hid hh.2.2.2.1, Lib.hid hh.2.1, Lib.hid (heap5b w _ _ _ _ _)⟩
      · refine ⟨_, rfl, rfl, fun KK hK => ?_⟩
        go_simp
        have HSC2 := Hp.blk_alloc HSC (.cells #[.int .i64 0, .int .i64 0, .int .i64 0, .int .i64 0, .int .i64 0] 25)
        have B5 := new_at HSC (.cells #[.int .i64 0, .int .i64 0, .int .i64 0, .int .i64 0, .int .i64 0] 25) (n := w.heap.size + 2) (by simp)
        replace B6 := Hp.blk_alloc B6 (.cells #[.int .i64 0, .int .i64 0, .int .i64 0, .int .i64 0, .int .i64 0] 25)
        refine hK.out _ _ HSC2 ?_
        clear hK KK HSC
        have HSC := HSC2
        clear HSC2
        try simp only [Act.put, List.setIfInBounds_toArray, List.set_cons_zero, List.set_cons_succ]
        refine Rg.Upto.cases (L := [8, 9]) (by kernel_rfl) (by simp) (fun i hi => ?_)
        simp only [List.mem_cons, List.not_mem_nil, or_false] at hi
        rcases hi with rfl | rfl
        · refine ⟨_, rfl, rfl, fun KK hK => ?_⟩
          go_simp
          have HSC2 := Hp.blk_alloc HSC (.cells #[.int .i64 0, .int .i64 0, .int .i64 0] 23)
          have B3 := new_at HSC (.cells #[.int .i64 0, .int .i64 0, .int .i64 0] 23) (n := w.heap.size + 3) (by simp)
          replace B6 := Hp.blk_alloc B6 (.cells #[.int .i64 0, .int .i64 0, .int .i64 0] 23)
          replace B5 := Hp.blk_alloc B5 (.cells #[.int .i64 0, .int .i64 0, .int .i64 0] 23)
          refine hK.out _ _ HSC2 ?_
          clear hK KK HSC
          have HSC := HSC2
          clear HSC2
          try simp only [Act.put, List.setIfInBounds_toArray, List.set_cons_zero, List.set_cons_succ]
          refine Rg.Upto.cases (L := [9]) (by kernel_rfl) (by simp) (fun i hi => ?_)
          simp only [List.mem_cons, List.not_mem_nil, or_false] at hi
          subst hi
          · refine ⟨_, rfl, rfl, fun KK hK => ?_⟩
            go_simp
            have HSC2 := Hp.blk_alloc HSC (.cells #[.int .i64 0, .int .i64 0, .int .i64 0] 23)
            have B4 := new_at HSC (.cells #[.int .i64 0, .int .i64 0, .int .i64 0] 23) (n := w.heap.size + 4) (by simp)
            replace B6 := Hp.blk_alloc B6 (.cells #[.int .i64 0, .int .i64 0, .int .i64 0] 23)
            replace B5 := Hp.blk_alloc B5 (.cells #[.int .i64 0, .int .i64 0, .int .i64 0] 23)
            replace B3 := Hp.blk_alloc B3 (.cells #[.int .i64 0, .int .i64 0, .int .i64 0] 23)
            refine hK.out _ _ HSC2 ?_
            clear hK KK HSC
            have HSC := HSC2
            clear HSC2
            try simp only [Act.put, List.setIfInBounds_toArray, List.set_cons_zero, List.set_cons_succ]
            refine Rg.Upto.one (i := 12) rfl (by kernel_rfl) (by rfl) (fun KK hK => ?_)
            go_simp
            refine hK.out _ _ (heap5 w _ _ _ _ _).1 ?_
            clear hK KK
            try simp only [Act.put, List.setIfInBounds_toArray, List.set_cons_zero, List.set_cons_succ]
            refine Rg.Upto.one (i := 13) rfl (by kernel_rfl) (by rfl) (fun KK hK => ?_)
            go_simp
            refine hK.out _ _ (heap5 w _ _ _ _ _).1 ?_
            clear hK KK
            try simp only [Act.put, List.setIfInBounds_toArray, List.set_cons_zero, List.set_cons_succ]
            refine Rg.Upto.one (i := 14) rfl (by kernel_rfl) (by rfl) (fun KK hK => ?_)
            go_simp
            refine hK.out _ _ (heap5 w _ _ _ _ _).1 ?_
            clear hK KK
            try simp only [Act.put, List.setIfInBounds_toArray, List.set_cons_zero, List.set_cons_succ]
            refine Rg.Upto.one (i := 15) rfl (by kernel_rfl) (by rfl) (fun KK hK => ?_)
            go_simp
            refine hK.out _ _ (heap5 w _ _ _ _ _).1 ?_
            clear hK KK
            try simp only [Act.put, List.setIfInBounds_toArray, List.set_cons_zero, List.set_cons_succ]
            refine Rg.Upto.done (by kernel_rfl) ?_
            clear HSC B3 B4 B5 B6
            go_wp2_with (fail)
            go_meet
            have hh := heap5 w (.cells #[.int .i64 a0, .int .i64 a1, .int .i64 a2, .int .i64 a3, .int .i64 a4, .int .i64 a5, .int .i64 a6, .int .i64 a7, .int .i64 a8, .int .i64 a9, .int .i64 a10, .int .i64 a11, .int .i64 a12, .int .i64 a13, .int .i64 a14, .int .i64 a15] 27) (.cells #[.int .i64 a11, .int .i64 a12, .int .i64 a13, .int .i64 a14, .int .i64 a15] 25) (.cells #[.int .i64 a6, .int .i64 a7, .int .i64 a8, .int .i64 a9, .int .i64 a10] 25) (.cells #[.int .i64 a0, .int .i64 a1, .int .i64 a2] 23) (.cells #[.int .i64 a3, .int .i64 a4, .int .i64 a5] 23)
            exact ⟨w.heap.size + 1 + 1 + 1, w.heap.size + 1 + 1 + 1 + 1, w.heap.size + 1 + 1, w.heap.size + 1, rfl, rfl, rfl, rfl, Lib.hid hh.2.2.2.1, Lib.hid hh.2.2.2.2, Lib.hid hh.2.2.1, Lib.hid hh.2.1, Lib.hid (heap5b w _ _ _ _ _)⟩
        · refine ⟨_, rfl, rfl, fun KK hK => ?_⟩
          go_simp
          have HSC2 := Hp.blk_alloc HSC (.cells #[.int .i64 0, .int .i64 0, .int .i64 0] 23)
          have B4 := new_at HSC (.cells #[.int .i64 0, .int .i64 0, .int .i64 0] 23) (n := w.heap.size + 3) (by simp)
          replace B6 := Hp.blk_alloc B6 (.cells #[.int .i64 0, .int .i64 0, .int .i64 0] 23)
          replace B5 := Hp.blk_alloc B5 (.cells #[.int .i64 0, .int .i64 0, .int .i64 0] 23)
          refine hK.out _ _ HSC2 ?_
          clear hK KK HSC
          have HSC := HSC2
          clear HSC2
          try simp only [Act.put, List.setIfInBounds_toArray, List.set_cons_zero, List.set_cons_succ]
          refine Rg.Upto.cases (L := [8]) (by kernel_rfl) (by simp) (fun i hi => ?_)
          simp only [List.mem_cons, List.not_mem_nil, or_false] at hi
          subst hi
          · refine ⟨_, rfl, rfl, fun KK hK => ?_⟩
            go_simp
            have HSC2 := Hp.blk_alloc HSC (.cells #[.int .i64 0, .int .i64 0, .int .i64 0] 23)
            have B3 := new_at HSC (.cells #[.int .i64 0, .int .i64 0, .int .i64 0] 23) (n := w.heap.size + 4) (by simp)
            replace B6 := Hp.blk_alloc B6 (.cells #[.int .i64 0, .int .i64 0, .int .i64 0] 23)
            replace B5 := Hp.blk_alloc B5 (.cells #[.int .i64 0, .int .i64 0, .int .i64 0] 23)
            replace B4 := Hp.blk_alloc B4 (.cells #[.int .i64 0, .int .i64 0, .int .i64 0] 23)
            refine hK.out _ _ HSC2 ?_
            clear hK KK HSC
            have HSC := HSC2
            clear HSC2
            try simp only [Act.put, List.setIfInBounds_toArray, List.set_cons_zero, List.set_cons_succ]
            refine Rg.Upto.one (i := 12) rfl (by kernel_rfl) (by rfl) (fun KK hK => ?_)
            go_simp
            refine hK.out _ _ (heap5 w _ _ _ _ _).1 ?_
            clear hK KK
            try simp only [Act.put, List.setIfInBounds_toArray, List.set_cons_zero, List.set_cons_succ]
            refine Rg.Upto.one (i := 13) rfl (by kernel_rfl) (by rfl) (fun KK hK => ?_)
            go_simp
            refine hK.out _ _ (heap5 w _ _ _ _ _).1 ?_
            clear hK KK
            try simp only [Act.put, List.setIfInBounds_toArray, List.set_cons_zero, List.set_cons_succ]
            refine Rg.Upto.one (i := 14) rfl (by kernel_rfl) (by rfl) (fun KK hK => ?_)
            go_simp
            refine hK.out _ _ (heap5 w _ _ _ _ _).1 ?_
            clear hK KK
            try simp only [Act.put, List.setIfInBounds_toArray, List.set_cons_zero, List.set_cons_succ]
            refine Rg.Upto.one (i := 15) rfl (by kernel_rfl) (by rfl) (fun KK hK => ?_)
            go_simp
            refine hK.out _ _ (heap5 w _ _ _ _ _).1 ?_
            clear hK KK
            try simp only [Act.put, List.setIfInBounds_toArray, List.set_cons_zero, List.set_cons_succ]
            refine Rg.Upto.done (by kernel_rfl) ?_
            clear HSC B3 B4 B5 B6
            go_wp2_with (fail)
            go_meet
            have hh := heap5 w (.cells #[.int .i64 a0, .int .i64 a1, .int .i64 a2, .int .i64 a3, .int .i64 a4, .int .i64 a5, .int .i64 a6, .int .i64 a7, .int .i64 a8, .int .i64 a9, .int .i64 a10, .int .i64 a11, .int .i64 a12, .int .i64 a13, .int .i64 a14, .int .i64 a15] 27) (.cells #[.int .i64 a11, .int .i64 a12, .int .i64 a13, .int .i64 a14, .int .i64 a15] 25) (.cells #[.int .i64 a6, .int .i64 a7, .int .i64 a8, .int .i64 a9, .int .i64 a10] 25) (.cells #[.int .i64 a3, .int .i64 a4, .int .i64 a5] 23) (.cells #[.int .i64 a0, .int .i64 a1, .int .i64 a2] 23)
            exact ⟨w.heap.size + 1 + 1 + 1 + 1, w.heap.size + 1 + 1 + 1, w.heap.size + 1 + 1, w.heap.size + 1, rfl, rfl, rfl, rfl, Lib.hid hh.2.2.2.2, Lib.hid hh.2.2.2.1, Lib.hid hh.2.2.1, Lib.hid hh.2.1, Lib.hid (heap5b w _ _ _ _ _)⟩
  case rest =>
    obtain ⟨b3, b4, b5, b6, rfl, rfl, rfl, rfl, B3, B4, B5, B6, HB⟩ := hcut
    obtain ⟨p0, -⟩ := Hp.blk_cell B3.out 0 rfl
    obtain ⟨p1, -⟩ := Hp.blk_cell B3.out 1 rfl
    obtain ⟨p2, -⟩ := Hp.blk_cell B3.out 2 rfl
    obtain ⟨p3, -⟩ := Hp.blk_cell B4.out 0 rfl
    obtain ⟨p4, -⟩ := Hp.blk_cell B4.out 1 rfl
    obtain ⟨p5, -⟩ := Hp.blk_cell B4.out 2 rfl
    obtain ⟨p6, -⟩ := Hp.blk_cell B5.out 0 rfl
    obtain ⟨p7, -⟩ := Hp.blk_cell B5.out 1 rfl
    obtain ⟨p8, -⟩ := Hp.blk_cell B5.out 2 rfl
    obtain ⟨p9, -⟩ := Hp.blk_cell B5.out 3 rfl
    obtain ⟨p10, -⟩ := Hp.blk_cell B5.out 4 rfl
    obtain ⟨p11, -⟩ := Hp.blk_cell B6.out 0 rfl
    obtain ⟨p12, -⟩ := Hp.blk_cell B6.out 1 rfl
    obtain ⟨p13, -⟩ := Hp.blk_cell B6.out 2 rfl
    obtain ⟨p14, -⟩ := Hp.blk_cell B6.out 3 rfl
    obtain ⟨p15, -⟩ := Hp.blk_cell B6.out 4 rfl
    go_upto_region 4 with (first
        | (go_at_call 9; (with_reducible refine (K1.out _).mono ?_; rintro e w7 ⟨rfl, hb7⟩; clear p0 p1 p2 p3 p4 p5 p6 p7 p8 p9 p10 p11 p12 p13 p14 p15; replace HB := Lib.hid (HB.out.trans (hb7.mono HB.out.size)); replace B3 := Lib.hid (hb7.block _ (Hp.blk_lt B3.out) |>.trans B3.out); replace B4 := Lib.hid (hb7.block _ (Hp.blk_lt B4.out) |>.trans B4.out); replace B5 := Lib.hid (hb7.block _ (Hp.blk_lt B5.out) |>.trans B5.out); replace B6 := Lib.hid (hb7.block _ (Hp.blk_lt B6.out) |>.trans B6.out); clear hb7; (obtain ⟨p0, -⟩ := Hp.blk_cell B3.out 0 rfl); (obtain ⟨p1, -⟩ := Hp.blk_cell B3.out 1 rfl); (obtain ⟨p2, -⟩ := Hp.blk_cell B3.out 2 rfl); (obtain ⟨p3, -⟩ := Hp.blk_cell B4.out 0 rfl); (obtain ⟨p4, -⟩ := Hp.blk_cell B4.out 1 rfl); (obtain ⟨p5, -⟩ := Hp.blk_cell B4.out 2 rfl); (obtain ⟨p6, -⟩ := Hp.blk_cell B5.out 0 rfl); (obtain ⟨p7, -⟩ := Hp.blk_cell B5.out 1 rfl); (obtain ⟨p8, -⟩ := Hp.blk_cell B5.out 2 rfl); (obtain ⟨p9, -⟩ := Hp.blk_cell B5.out 3 rfl); (obtain ⟨p10, -⟩ := Hp.blk_cell B5.out 4 rfl); (obtain ⟨p11, -⟩ := Hp.blk_cell B6.out 0 rfl); (obtain ⟨p12, -⟩ := Hp.blk_cell B6.out 1 rfl); (obtain ⟨p13, -⟩ := Hp.blk_cell B6.out 2 rfl); (obtain ⟨p14, -⟩ := Hp.blk_cell B6.out 3 rfl); (obtain ⟨p15, -⟩ := Hp.blk_cell B6.out 4 rfl)))
        | (go_at_call 9; (with_reducible refine (K2.out _).mono ?_; rintro e w7 ⟨rfl, hb7⟩; clear p0 p1 p2 p3 p4 p5 p6 p7 p8 p9 p10 p11 p12 p13 p14 p15; replace HB := Lib.hid (HB.out.trans (hb7.mono HB.out.size)); replace B3 := Lib.hid (hb7.block _ (Hp.blk_lt B3.out) |>.trans B3.out); replace B4 := Lib.hid (hb7.block _ (Hp.blk_lt B4.out) |>.trans B4.out); replace B5 := Lib.hid (hb7.block _ (Hp.blk_lt B5.out) |>.trans B5.out); replace B6 := Lib.hid (hb7.block _ (Hp.blk_lt B6.out) |>.trans B6.out); clear hb7; (obtain ⟨p0, -⟩ := Hp.blk_cell B3.out 0 rfl); (obtain ⟨p1, -⟩ := Hp.blk_cell B3.out 1 rfl); (obtain ⟨p2, -⟩ := Hp.blk_cell B3.out 2 rfl); (obtain ⟨p3, -⟩ := Hp.blk_cell B4.out 0 rfl); (obtain ⟨p4, -⟩ := Hp.blk_cell B4.out 1 rfl); (obtain ⟨p5, -⟩ := Hp.blk_cell B4.out 2 rfl); (obtain ⟨p6, -⟩ := Hp.blk_cell B5.out 0 rfl); (obtain ⟨p7, -⟩ := Hp.blk_cell B5.out 1 rfl); (obtain ⟨p8, -⟩ := Hp.blk_cell B5.out 2 rfl); (obtain ⟨p9, -⟩ := Hp.blk_cell B5.out 3 rfl); (obtain ⟨p10, -⟩ := Hp.blk_cell B5.out 4 rfl); (obtain ⟨p11, -⟩ := Hp.blk_cell B6.out 0 rfl); (obtain ⟨p12, -⟩ := Hp.blk_cell B6.out 1 rfl); (obtain ⟨p13, -⟩ := Hp.blk_cell B6.out 2 rfl); (obtain ⟨p14, -⟩ := Hp.blk_cell B6.out 3 rfl); (obtain ⟨p15, -⟩ := Hp.blk_cell B6.out 4 rfl)))
        | (go_at_call 11; (with_reducible refine (K3.out _).mono ?_; rintro e w7 ⟨rfl, hb7⟩; clear p0 p1 p2 p3 p4 p5 p6 p7 p8 p9 p10 p11 p12 p13 p14 p15; replace HB := Lib.hid (HB.out.trans (hb7.mono HB.out.size)); replace B3 := Lib.hid (hb7.block _ (Hp.blk_lt B3.out) |>.trans B3.out); replace B4 := Lib.hid (hb7.block _ (Hp.blk_lt B4.out) |>.trans B4.out); replace B5 := Lib.hid (hb7.block _ (Hp.blk_lt B5.out) |>.trans B5.out); replace B6 := Lib.hid (hb7.block _ (Hp.blk_lt B6.out) |>.trans B6.out); clear hb7; (obtain ⟨p0, -⟩ := Hp.blk_cell B3.out 0 rfl); (obtain ⟨p1, -⟩ := Hp.blk_cell B3.out 1 rfl); (obtain ⟨p2, -⟩ := Hp.blk_cell B3.out 2 rfl); (obtain ⟨p3, -⟩ := Hp.blk_cell B4.out 0 rfl); (obtain ⟨p4, -⟩ := Hp.blk_cell B4.out 1 rfl); (obtain ⟨p5, -⟩ := Hp.blk_cell B4.out 2 rfl); (obtain ⟨p6, -⟩ := Hp.blk_cell B5.out 0 rfl); (obtain ⟨p7, -⟩ := Hp.blk_cell B5.out 1 rfl); (obtain ⟨p8, -⟩ := Hp.blk_cell B5.out 2 rfl); (obtain ⟨p9, -⟩ := Hp.blk_cell B5.out 3 rfl); (obtain ⟨p10, -⟩ := Hp.blk_cell B5.out 4 rfl); (obtain ⟨p11, -⟩ := Hp.blk_cell B6.out 0 rfl); (obtain ⟨p12, -⟩ := Hp.blk_cell B6.out 1 rfl); (obtain ⟨p13, -⟩ := Hp.blk_cell B6.out 2 rfl); (obtain ⟨p14, -⟩ := Hp.blk_cell B6.out 3 rfl); (obtain ⟨p15, -⟩ := Hp.blk_cell B6.out 4 rfl)))
        | (go_at_call 11; (with_reducible refine (K4.out _).mono ?_; rintro e w7 ⟨rfl, hb7⟩; clear p0 p1 p2 p3 p4 p5 p6 p7 p8 p9 p10 p11 p12 p13 p14 p15; replace HB := Lib.hid (HB.out.trans (hb7.mono HB.out.size)); replace B3 := Lib.hid (hb7.block _ (Hp.blk_lt B3.out) |>.trans B3.out); replace B4 := Lib.hid (hb7.block _ (Hp.blk_lt B4.out) |>.trans B4.out); replace B5 := Lib.hid (hb7.block _ (Hp.blk_lt B5.out) |>.trans B5.out); replace B6 := Lib.hid (hb7.block _ (Hp.blk_lt B6.out) |>.trans B6.out); clear hb7; (obtain ⟨p0, -⟩ := Hp.blk_cell B3.out 0 rfl); (obtain ⟨p1, -⟩ := Hp.blk_cell B3.out 1 rfl); (obtain ⟨p2, -⟩ := Hp.blk_cell B3.out 2 rfl); (obtain ⟨p3, -⟩ := Hp.blk_cell B4.out 0 rfl); (obtain ⟨p4, -⟩ := Hp.blk_cell B4.out 1 rfl); (obtain ⟨p5, -⟩ := Hp.blk_cell B4.out 2 rfl); (obtain ⟨p6, -⟩ := Hp.blk_cell B5.out 0 rfl); (obtain ⟨p7, -⟩ := Hp.blk_cell B5.out 1 rfl); (obtain ⟨p8, -⟩ := Hp.blk_cell B5.out 2 rfl); (obtain ⟨p9, -⟩ := Hp.blk_cell B5.out 3 rfl); (obtain ⟨p10, -⟩ := Hp.blk_cell B5.out 4 rfl); (obtain ⟨p11, -⟩ := Hp.blk_cell B6.out 0 rfl); (obtain ⟨p12, -⟩ := Hp.blk_cell B6.out 1 rfl); (obtain ⟨p13, -⟩ := Hp.blk_cell B6.out 2 rfl); (obtain ⟨p14, -⟩ := Hp.blk_cell B6.out 3 rfl); (obtain ⟨p15, -⟩ := Hp.blk_cell B6.out 4 rfl)))
        | (go_at_call 10; (with_reducible refine (K5.out _).mono ?_; rintro e w7 ⟨rfl, hb7⟩; clear p0 p1 p2 p3 p4 p5 p6 p7 p8 p9 p10 p11 p12 p13 p14 p15; replace HB := Lib.hid (HB.out.trans (hb7.mono HB.out.size)); replace B3 := Lib.hid (hb7.block _ (Hp.blk_lt B3.out) |>.trans B3.out); replace B4 := Lib.hid (hb7.block _ (Hp.blk_lt B4.out) |>.trans B4.out); replace B5 := Lib.hid (hb7.block _ (Hp.blk_lt B5.out) |>.trans B5.out); replace B6 := Lib.hid (hb7.block _ (Hp.blk_lt B6.out) |>.trans B6.out); clear hb7; (obtain ⟨p0, -⟩ := Hp.blk_cell B3.out 0 rfl); (obtain ⟨p1, -⟩ := Hp.blk_cell B3.out 1 rfl); (obtain ⟨p2, -⟩ := Hp.blk_cell B3.out 2 rfl); (obtain ⟨p3, -⟩ := Hp.blk_cell B4.out 0 rfl); (obtain ⟨p4, -⟩ := Hp.blk_cell B4.out 1 rfl); (obtain ⟨p5, -⟩ := Hp.blk_cell B4.out 2 rfl); (obtain ⟨p6, -⟩ := Hp.blk_cell B5.out 0 rfl); (obtain ⟨p7, -⟩ := Hp.blk_cell B5.out 1 rfl); (obtain ⟨p8, -⟩ := Hp.blk_cell B5.out 2 rfl); (obtain ⟨p9, -⟩ := Hp.blk_cell B5.out 3 rfl); (obtain ⟨p10, -⟩ := Hp.blk_cell B5.out 4 rfl); (obtain ⟨p11, -⟩ := Hp.blk_cell B6.out 0 rfl); (obtain ⟨p12, -⟩ := Hp.blk_cell B6.out 1 rfl); (obtain ⟨p13, -⟩ := Hp.blk_cell B6.out 2 rfl); (obtain ⟨p14, -⟩ := Hp.blk_cell B6.out 3 rfl); (obtain ⟨p15, -⟩ := Hp.blk_cell B6.out 4 rfl))))
    have hw : e1 ≠ 0 ∨ (e1 = 0 ∧ e2 ≠ 0) ∨ (e1 = 0 ∧ e2 = 0) := by omega
    have hw2 : e3 ≠ 0 ∨ (e3 = 0 ∧ e4 ≠ 0) ∨ (e3 = 0 ∧ e4 = 0) := by omega
    rcases hw with hw | ⟨rfl, hw⟩ | ⟨rfl, rfl⟩
    · have f1 : (e1 == 0) = false := by simp [hw]
      go_upto_region 6 with (first
          | (go_at_call 9; (with_reducible refine (K1.out _).mono ?_; rintro e w7 ⟨rfl, hb7⟩; clear p0 p1 p2 p3 p4 p5 p6 p7 p8 p9 p10 p11 p12 p13 p14 p15; replace HB := Lib.hid (HB.out.trans (hb7.mono HB.out.size)); replace B3 := Lib.hid (hb7.block _ (Hp.blk_lt B3.out) |>.trans B3.out); replace B4 := Lib.hid (hb7.block _ (Hp.blk_lt B4.out) |>.trans B4.out); replace B5 := Lib.hid (hb7.block _ (Hp.blk_lt B5.out) |>.trans B5.out); replace B6 := Lib.hid (hb7.block _ (Hp.blk_lt B6.out) |>.trans B6.out); clear hb7; (obtain ⟨p0, -⟩ := Hp.blk_cell B3.out 0 rfl); (obtain ⟨p1, -⟩ := Hp.blk_cell B3.out 1 rfl); (obtain ⟨p2, -⟩ := Hp.blk_cell B3.out 2 rfl); (obtain ⟨p3, -⟩ := Hp.blk_cell B4.out 0 rfl); (obtain ⟨p4, -⟩ := Hp.blk_cell B4.out 1 rfl); (obtain ⟨p5, -⟩ := Hp.blk_cell B4.out 2 rfl); (obtain ⟨p6, -⟩ := Hp.blk_cell B5.out 0 rfl); (obtain ⟨p7, -⟩ := Hp.blk_cell B5.out 1 rfl); (obtain ⟨p8, -⟩ := Hp.blk_cell B5.out 2 rfl); (obtain ⟨p9, -⟩ := Hp.blk_cell B5.out 3 rfl); (obtain ⟨p10, -⟩ := Hp.blk_cell B5.out 4 rfl); (obtain ⟨p11, -⟩ := Hp.blk_cell B6.out 0 rfl); (obtain ⟨p12, -⟩ := Hp.blk_cell B6.out 1 rfl); (obtain ⟨p13, -⟩ := Hp.blk_cell B6.out 2 rfl); (obtain ⟨p14, -⟩ := Hp.blk_cell B6.out 3 rfl); (obtain ⟨p15, -⟩ := Hp.blk_cell B6.out 4 rfl)))
          | (go_at_call 9; (with_reducible refine (K2.out _).mono ?_; rintro e w7 ⟨rfl, hb7⟩; clear p0 p1 p2 p3 p4 p5 p6 p7 p8 p9 p10 p11 p12 p13 p14 p15; replace HB := Lib.hid (HB.out.trans (hb7.mono HB.out.size)); replace B3 := Lib.hid (hb7.block _ (Hp.blk_lt B3.out) |>.trans B3.out); replace B4 := Lib.hid (hb7.block _ (Hp.blk_lt B4.out) |>.trans B4.out); replace B5 := Lib.hid (hb7.block _ (Hp.blk_lt B5.out) |>.trans B5.out); replace B6 := Lib.hid (hb7.block _ (Hp.blk_lt B6.out) |>.trans B6.out); clear hb7; (obtain ⟨p0, -⟩ := Hp.blk_cell B3.out 0 rfl); (obtain ⟨p1, -⟩ := Hp.blk_cell B3.out 1 rfl); (obtain ⟨p2, -⟩ := Hp.blk_cell B3.out 2 rfl); (obtain ⟨p3, -⟩ := Hp.blk_cell B4.out 0 rfl); (obtain ⟨p4, -⟩ := Hp.blk_cell B4.out 1 rfl); (obtain ⟨p5, -⟩ := Hp.blk_cell B4.out 2 rfl); (obtain ⟨p6, -⟩ := Hp.blk_cell B5.out 0 rfl); (obtain ⟨p7, -⟩ := Hp.blk_cell B5.out 1 rfl); (obtain ⟨p8, -⟩ := Hp.blk_cell B5.out 2 rfl); (obtain ⟨p9, -⟩ := Hp.blk_cell B5.out 3 rfl); (obtain ⟨p10, -⟩ := Hp.blk_cell B5.out 4 rfl); (obtain ⟨p11, -⟩ := Hp.blk_cell B6.out 0 rfl); (obtain ⟨p12, -⟩ := Hp.blk_cell B6.out 1 rfl); (obtain ⟨p13, -⟩ := Hp.blk_cell B6.out 2 rfl); (obtain ⟨p14, -⟩ := Hp.blk_cell B6.out 3 rfl); (obtain ⟨p15, -⟩ := Hp.blk_cell B6.out 4 rfl)))
          | (go_at_call 11; (with_reducible refine (K3.out _).mono ?_; rintro e w7 ⟨rfl, hb7⟩; clear p0 p1 p2 p3 p4 p5 p6 p7 p8 p9 p10 p11 p12 p13 p14 p15; replace HB := Lib.hid (HB.out.trans (hb7.mono HB.out.size)); replace B3 := Lib.hid (hb7.block _ (Hp.blk_lt B3.out) |>.trans B3.out); replace B4 := Lib.hid (hb7.block _ (Hp.blk_lt B4.out) |>.trans B4.out); replace B5 := Lib.hid (hb7.block _ (Hp.blk_lt B5.out) |>.trans B5.out); replace B6 := Lib.hid (hb7.block _ (Hp.blk_lt B6.out) |>.trans B6.out); clear hb7; (obtain ⟨p0, -⟩ := Hp.blk_cell B3.out 0 rfl); (obtain ⟨p1, -⟩ := Hp.blk_cell B3.out 1 rfl); (obtain ⟨p2, -⟩ := Hp.blk_cell B3.out 2 rfl); (obtain ⟨p3, -⟩ := Hp.blk_cell B4.out 0 rfl); (obtain ⟨p4, -⟩ := Hp.blk_cell B4.out 1 rfl); (obtain ⟨p5, -⟩ := Hp.blk_cell B4.out 2 rfl); (obtain ⟨p6, -⟩ := Hp.blk_cell B5.out 0 rfl); (obtain ⟨p7, -⟩ := Hp.blk_cell B5.out 1 rfl); (obtain ⟨p8, -⟩ := Hp.blk_cell B5.out 2 rfl); (obtain ⟨p9, -⟩ := Hp.blk_cell B5.out 3 rfl); (obtain ⟨p10, -⟩ := Hp.blk_cell B5.out 4 rfl); (obtain ⟨p11, -⟩ := Hp.blk_cell B6.out 0 rfl); (obtain ⟨p12, -⟩ := Hp.blk_cell B6.out 1 rfl); (obtain ⟨p13, -⟩ := Hp.blk_cell B6.out 2 rfl); (obtain ⟨p14, -⟩ := Hp.blk_cell B6.out 3 rfl); (obtain ⟨p15, -⟩ := Hp.blk_cell B6.out 4 rfl)))
          | (go_at_call 11; (with_reducible refine (K4.out _).mono ?_; rintro e w7 ⟨rfl, hb7⟩; clear p0 p1 p2 p3 p4 p5 p6 p7 p8 p9 p10 p11 p12 p13 p14 p15; replace HB := Lib.hid (HB.out.trans (hb7.mono HB.out.size)); replace B3 := Lib.hid (hb7.block _ (Hp.blk_lt B3.out) |>.trans B3.out); replace B4 := Lib.hid (hb7.block _ (Hp.blk_lt B4.out) |>.trans B4.out); replace B5 := Lib.hid (hb7.block _ (Hp.blk_lt B5.out) |>.trans B5.out); replace B6 := Lib.hid (hb7.block _ (Hp.blk_lt B6.out) |>.trans B6.out); clear hb7; (obtain ⟨p0, -⟩ := Hp.blk_cell B3.out 0 rfl); (obtain ⟨p1, -⟩ := Hp.blk_cell B3.out 1 rfl); (obtain ⟨p2, -⟩ := Hp.blk_cell B3.out 2 rfl); (obtain ⟨p3, -⟩ := Hp.blk_cell B4.out 0 rfl); (obtain ⟨p4, -⟩ := Hp.blk_cell B4.out 1 rfl); (obtain ⟨p5, -⟩ := Hp.blk_cell B4.out 2 rfl); (obtain ⟨p6, -⟩ := Hp.blk_cell B5.out 0 rfl); (obtain ⟨p7, -⟩ := Hp.blk_cell B5.out 1 rfl); (obtain ⟨p8, -⟩ := Hp.blk_cell B5.out 2 rfl); (obtain ⟨p9, -⟩ := Hp.blk_cell B5.out 3 rfl); (obtain ⟨p10, -⟩ := Hp.blk_cell B5.out 4 rfl); (obtain ⟨p11, -⟩ := Hp.blk_cell B6.out 0 rfl); (obtain ⟨p12, -⟩ := Hp.blk_cell B6.out 1 rfl); (obtain ⟨p13, -⟩ := Hp.blk_cell B6.out 2 rfl); (obtain ⟨p14, -⟩ := Hp.blk_cell B6.out 3 rfl); (obtain ⟨p15, -⟩ := Hp.blk_cell B6.out 4 rfl)))
          | (go_at_call 10; (with_reducible refine (K5.out _).mono ?_; rintro e w7 ⟨rfl, hb7⟩; clear p0 p1 p2 p3 p4 p5 p6 p7 p8 p9 p10 p11 p12 p13 p14 p15; replace HB := Lib.hid (HB.out.trans (hb7.mono HB.out.size)); replace B3 := Lib.hid (hb7.block _ (Hp.blk_lt B3.out) |>.trans B3.out); replace B4 := Lib.hid (hb7.block _ (Hp.blk_lt B4.out) |>.trans B4.out); replace B5 := Lib.hid (hb7.block _ (Hp.blk_lt B5.out) |>.trans B5.out); replace B6 := Lib.hid (hb7.block _ (Hp.blk_lt B6.out) |>.trans B6.out); clear hb7; (obtain ⟨p0, -⟩ := Hp.blk_cell B3.out 0 rfl); (obtain ⟨p1, -⟩ := Hp.blk_cell B3.out 1 rfl); (obtain ⟨p2, -⟩ := Hp.blk_cell B3.out 2 rfl); (obtain ⟨p3, -⟩ := Hp.blk_cell B4.out 0 rfl); (obtain ⟨p4, -⟩ := Hp.blk_cell B4.out 1 rfl); (obtain ⟨p5, -⟩ := Hp.blk_cell B4.out 2 rfl); (obtain ⟨p6, -⟩ := Hp.blk_cell B5.out 0 rfl); (obtain ⟨p7, -⟩ := Hp.blk_cell B5.out 1 rfl); (obtain ⟨p8, -⟩ := Hp.blk_cell B5.out 2 rfl); (obtain ⟨p9, -⟩ := Hp.blk_cell B5.out 3 rfl); (obtain ⟨p10, -⟩ := Hp.blk_cell B5.out 4 rfl); (obtain ⟨p11, -⟩ := Hp.blk_cell B6.out 0 rfl); (obtain ⟨p12, -⟩ := Hp.blk_cell B6.out 1 rfl); (obtain ⟨p13, -⟩ := Hp.blk_cell B6.out 2 rfl); (obtain ⟨p14, -⟩ := Hp.blk_cell B6.out 3 rfl); (obtain ⟨p15, -⟩ := Hp.blk_cell B6.out 4 rfl))))
      all_goals
        rcases hw2 with hw2 | ⟨rfl, hw2⟩ | ⟨rfl, rfl⟩
        · have f4 : (e3 != 0) = true := by simp [hw2]
          go_wp2_with (first
              | (go_at_call 9; (with_reducible refine (K1.out _).mono ?_; rintro e w7 ⟨rfl, hb7⟩; clear p0 p1 p2 p3 p4 p5 p6 p7 p8 p9 p10 p11 p12 p13 p14 p15; replace HB := Lib.hid (HB.out.trans (hb7.mono HB.out.size)); replace B3 := Lib.hid (hb7.block _ (Hp.blk_lt B3.out) |>.trans B3.out); replace B4 := Lib.hid (hb7.block _ (Hp.blk_lt B4.out) |>.trans B4.out); replace B5 := Lib.hid (hb7.block _ (Hp.blk_lt B5.out) |>.trans B5.out); replace B6 := Lib.hid (hb7.block _ (Hp.blk_lt B6.out) |>.trans B6.out); clear hb7; (obtain ⟨p0, -⟩ := Hp.blk_cell B3.out 0 rfl); (obtain ⟨p1, -⟩ := Hp.blk_cell B3.out 1 rfl); (obtain ⟨p2, -⟩ := Hp.blk_cell B3.out 2 rfl); (obtain ⟨p3, -⟩ := Hp.blk_cell B4.out 0 rfl); (obtain ⟨p4, -⟩ := Hp.blk_cell B4.out 1 rfl); (obtain ⟨p5, -⟩ := Hp.blk_cell B4.out 2 rfl); (obtain ⟨p6, -⟩ := Hp.blk_cell B5.out 0 rfl); (obtain ⟨p7, -⟩ := Hp.blk_cell B5.out 1 rfl); (obtain ⟨p8, -⟩ := Hp.blk_cell B5.out 2 rfl); (obtain ⟨p9, -⟩ := Hp.blk_cell B5.out 3 rfl); (obtain ⟨p10, -⟩ := Hp.blk_cell B5.out 4 rfl); (obtain ⟨p11, -⟩ := Hp.blk_cell B6.out 0 rfl); (obtain ⟨p12, -⟩ := Hp.blk_cell B6.out 1 rfl); (obtain ⟨p13, -⟩ := Hp.blk_cell B6.out 2 rfl); (obtain ⟨p14, -⟩ := Hp.blk_cell B6.out 3 rfl); (obtain ⟨p15, -⟩ := Hp.blk_cell B6.out 4 rfl)))
              | (go_at_call 9; (with_reducible refine (K2.out _).mono ?_; rintro e w7 ⟨rfl, hb7⟩; clear p0 p1 p2 p3 p4 p5 p6 p7 p8 p9 p10 p11 p12 p13 p14 p15; replace HB := Lib.hid (HB.out.trans (hb7.mono HB.out.size)); replace B3 := Lib.hid (hb7.block _ (Hp.blk_lt B3.out) |>.trans B3.out); replace B4 := Lib.hid (hb7.block _ (Hp.blk_lt B4.out) |>.trans B4.out); replace B5 := Lib.hid (hb7.block _ (Hp.blk_lt B5.out) |>.trans B5.out); replace B6 := Lib.hid (hb7.block _ (Hp.blk_lt B6.out) |>.trans B6.out); clear hb7; (obtain ⟨p0, -⟩ := Hp.blk_cell B3.out 0 rfl); (obtain ⟨p1, -⟩ := Hp.blk_cell B3.out 1 rfl); (obtain ⟨p2, -⟩ := Hp.blk_cell B3.out 2 rfl); (obtain ⟨p3, -⟩ := Hp.blk_cell B4.out 0 rfl); (obtain ⟨p4, -⟩ := Hp.blk_cell B4.out 1 rfl); (obtain ⟨p5, -⟩ := Hp.blk_cell B4.out 2 rfl); (obtain ⟨p6, -⟩ := Hp.blk_cell B5.out 0 rfl); (obtain ⟨p7, -⟩ := Hp.blk_cell B5.out 1 rfl); (obtain ⟨p8, -⟩ := Hp.blk_cell B5.out 2 rfl); (obtain ⟨p9, -⟩ := Hp.blk_cell B5.out 3 rfl); (obtain ⟨p10, -⟩ := Hp.blk_cell B5.out 4 rfl); (obtain ⟨p11, -⟩ := Hp.blk_cell B6.out 0 rfl); (obtain ⟨p12, -⟩ := Hp.blk_cell B6.out 1 rfl); (obtain ⟨p13, -⟩ := Hp.blk_cell B6.out 2 rfl); (obtain ⟨p14, -⟩ := Hp.blk_cell B6.out 3 rfl); (obtain ⟨p15, -⟩ := Hp.blk_cell B6.out 4 rfl)))
              | (go_at_call 11; (with_reducible refine (K3.out _).mono ?_; rintro e w7 ⟨rfl, hb7⟩; clear p0 p1 p2 p3 p4 p5 p6 p7 p8 p9 p10 p11 p12 p13 p14 p15; replace HB := Lib.hid (HB.out.trans (hb7.mono HB.out.size)); replace B3 := Lib.hid (hb7.block _ (Hp.blk_lt B3.out) |>.trans B3.out); replace B4 := Lib.hid (hb7.block _ (Hp.blk_lt B4.out) |>.trans B4.out); replace B5 := Lib.hid (hb7.block _ (Hp.blk_lt B5.out) |>.trans B5.out); replace B6 := Lib.hid (hb7.block _ (Hp.blk_lt B6.out) |>.trans B6.out); clear hb7; (obtain ⟨p0, -⟩ := Hp.blk_cell B3.out 0 rfl); (obtain ⟨p1, -⟩ := Hp.blk_cell B3.out 1 rfl); (obtain ⟨p2, -⟩ := Hp.blk_cell B3.out 2 rfl); (obtain ⟨p3, -⟩ := Hp.blk_cell B4.out 0 rfl); (obtain ⟨p4, -⟩ := Hp.blk_cell B4.out 1 rfl); (obtain ⟨p5, -⟩ := Hp.blk_cell B4.out 2 rfl); (obtain ⟨p6, -⟩ := Hp.blk_cell B5.out 0 rfl); (obtain ⟨p7, -⟩ := Hp.blk_cell B5.out 1 rfl); (obtain ⟨p8, -⟩ := Hp.blk_cell B5.out 2 rfl); (obtain ⟨p9, -⟩ := Hp.blk_cell B5.out 3 rfl); (obtain ⟨p10, -⟩ := Hp.blk_cell B5.out 4 rfl); (obtain ⟨p11, -⟩ := Hp.blk_cell B6.out 0 rfl); (obtain ⟨p12, -⟩ := Hp.blk_cell B6.out 1 rfl); (obtain ⟨p13, -⟩ := Hp.blk_cell B6.out 2 rfl); (obtain ⟨p14, -⟩ := Hp.blk_cell B6.out 3 rfl); (obtain ⟨p15, -⟩ := Hp.blk_cell B6.out 4 rfl)))
              | (go_at_call 11; (with_reducible refine (K4.out _).mono ?_; rintro e w7 ⟨rfl, hb7⟩; clear p0 p1 p2 p3 p4 p5 p6 p7 p8 p9 p10 p11 p12 p13 p14 p15; replace HB := Lib.hid (HB.out.trans (hb7.mono HB.out.size)); replace B3 := Lib.hid (hb7.block _ (Hp.blk_lt B3.out) |>.trans B3.out); replace B4 := Lib.hid (hb7.block _ (Hp.blk_lt B4.out) |>.trans B4.out); replace B5 := Lib.hid (hb7.block _ (Hp.blk_lt B5.out) |>.trans B5.out); replace B6 := Lib.hid (hb7.block _ (Hp.blk_lt B6.out) |>.trans B6.out); clear hb7; (obtain ⟨p0, -⟩ := Hp.blk_cell B3.out 0 rfl); (obtain ⟨p1, -⟩ := Hp.blk_cell B3.out 1 rfl); (obtain ⟨p2, -⟩ := Hp.blk_cell B3.out 2 rfl); (obtain ⟨p3, -⟩ := Hp.blk_cell B4.out 0 rfl); (obtain ⟨p4, -⟩ := Hp.blk_cell B4.out 1 rfl); (obtain ⟨p5, -⟩ := Hp.blk_cell B4.out 2 rfl); (obtain ⟨p6, -⟩ := Hp.blk_cell B5.out 0 rfl); (obtain ⟨p7, -⟩ := Hp.blk_cell B5.out 1 rfl); (obtain ⟨p8, -⟩ := Hp.blk_cell B5.out 2 rfl); (obtain ⟨p9, -⟩ := Hp.blk_cell B5.out 3 rfl); (obtain ⟨p10, -⟩ := Hp.blk_cell B5.out 4 rfl); (obtain ⟨p11, -⟩ := Hp.blk_cell B6.out 0 rfl); (obtain ⟨p12, -⟩ := Hp.blk_cell B6.out 1 rfl); (obtain ⟨p13, -⟩ := Hp.blk_cell B6.out 2 rfl); (obtain ⟨p14, -⟩ := Hp.blk_cell B6.out 3 rfl); (obtain ⟨p15, -⟩ := Hp.blk_cell B6.out 4 rfl)))
              | (go_at_call 10; (with_reducible refine (K5.out _).mono ?_; rintro e w7 ⟨rfl, hb7⟩; clear p0 p1 p2 p3 p4 p5 p6 p7 p8 p9 p10 p11 p12 p13 p14 p15; replace HB := Lib.hid (HB.out.trans (hb7.mono HB.out.size)); replace B3 := Lib.hid (hb7.block _ (Hp.blk_lt B3.out) |>.trans B3.out); replace B4 := Lib.hid (hb7.block _ (Hp.blk_lt B4.out) |>.trans B4.out); replace B5 := Lib.hid (hb7.block _ (Hp.blk_lt B5.out) |>.trans B5.out); replace B6 := Lib.hid (hb7.block _ (Hp.blk_lt B6.out) |>.trans B6.out); clear hb7; (obtain ⟨p0, -⟩ := Hp.blk_cell B3.out 0 rfl); (obtain ⟨p1, -⟩ := Hp.blk_cell B3.out 1 rfl); (obtain ⟨p2, -⟩ := Hp.blk_cell B3.out 2 rfl); (obtain ⟨p3, -⟩ := Hp.blk_cell B4.out 0 rfl); (obtain ⟨p4, -⟩ := Hp.blk_cell B4.out 1 rfl); (obtain ⟨p5, -⟩ := Hp.blk_cell B4.out 2 rfl); (obtain ⟨p6, -⟩ := Hp.blk_cell B5.out 0 rfl); (obtain ⟨p7, -⟩ := Hp.blk_cell B5.out 1 rfl); (obtain ⟨p8, -⟩ := Hp.blk_cell B5.out 2 rfl); (obtain ⟨p9, -⟩ := Hp.blk_cell B5.out 3 rfl); (obtain ⟨p10, -⟩ := Hp.blk_cell B5.out 4 rfl); (obtain ⟨p11, -⟩ := Hp.blk_cell B6.out 0 rfl); (obtain ⟨p12, -⟩ := Hp.blk_cell B6.out 1 rfl); (obtain ⟨p13, -⟩ := Hp.blk_cell B6.out 2 rfl); (obtain ⟨p14, -⟩ := Hp.blk_cell B6.out 3 rfl); (obtain ⟨p15, -⟩ := Hp.blk_cell B6.out 4 rfl))))
          all_goals
            go_ret
            exact ⟨rfl, HB.out⟩
        · have f5 : (e4 != 0) = true := by simp [hw2]
          go_wp2_with (first
              | (go_at_call 9; (with_reducible refine (K1.out _).mono ?_; rintro e w7 ⟨rfl, hb7⟩; clear p0 p1 p2 p3 p4 p5 p6 p7 p8 p9 p10 p11 p12 p13 p14 p15; replace HB := Lib.hid (HB.out.trans (hb7.mono HB.out.size)); replace B3 := Lib.hid (hb7.block _ (Hp.blk_lt B3.out) |>.trans B3.out); replace B4 := Lib.hid (hb7.block _ (Hp.blk_lt B4.out) |>.trans B4.out); replace B5 := Lib.hid (hb7.block _ (Hp.blk_lt B5.out) |>.trans B5.out); replace B6 := Lib.hid (hb7.block _ (Hp.blk_lt B6.out) |>.trans B6.out); clear hb7; (obtain ⟨p0, -⟩ := Hp.blk_cell B3.out 0 rfl); (obtain ⟨p1, -⟩ := Hp.blk_cell B3.out 1 rfl); (obtain ⟨p2, -⟩ := Hp.blk_cell B3.out 2 rfl); (obtain ⟨p3, -⟩ := Hp.blk_cell B4.out 0 rfl); (obtain ⟨p4, -⟩ := Hp.blk_cell B4.out 1 rfl); (obtain ⟨p5, -⟩ := Hp.blk_cell B4.out 2 rfl); (obtain ⟨p6, -⟩ := Hp.blk_cell B5.out 0 rfl); (obtain ⟨p7, -⟩ := Hp.blk_cell B5.out 1 rfl); (obtain ⟨p8, -⟩ := Hp.blk_cell B5.out 2 rfl); (obtain ⟨p9, -⟩ := Hp.blk_cell B5.out 3 rfl); (obtain ⟨p10, -⟩ := Hp.blk_cell B5.out 4 rfl); (obtain ⟨p11, -⟩ := Hp.blk_cell B6.out 0 rfl); (obtain ⟨p12, -⟩ := Hp.blk_cell B6.out 1 rfl); (obtain ⟨p13, -⟩ := Hp.blk_cell B6.out 2 rfl); (obtain ⟨p14, -⟩ := Hp.blk_cell B6.out 3 rfl); (obtain ⟨p15, -⟩ := Hp.blk_cell B6.out 4 rfl)))
              | (go_at_call 9; (with_reducible refine (K2.out _).mono ?_; rintro e w7 ⟨rfl, hb7⟩; clear p0 p1 p2 p3 p4 p5 p6 p7 p8 p9 p10 p11 p12 p13 p14 p15; replace HB := Lib.hid (HB.out.trans (hb7.mono HB.out.size)); replace B3 := Lib.hid (hb7.block _ (Hp.blk_lt B3.out) |>.trans B3.out); replace B4 := Lib.hid (hb7.block _ (Hp.blk_lt B4.out) |>.trans B4.out); replace B5 := Lib.hid (hb7.block _ (Hp.blk_lt B5.out) |>.trans B5.out); replace B6 := Lib.hid (hb7.block _ (Hp.blk_lt B6.out) |>.trans B6.out); clear hb7; (obtain ⟨p0, -⟩ := Hp.blk_cell B3.out 0 rfl); (obtain ⟨p1, -⟩ := Hp.blk_cell B3.out 1 rfl); (obtain ⟨p2, -⟩ := Hp.blk_cell B3.out 2 rfl); (obtain ⟨p3, -⟩ := Hp.blk_cell B4.out 0 rfl); (obtain ⟨p4, -⟩ := Hp.blk_cell B4.out 1 rfl); (obtain ⟨p5, -⟩ := Hp.blk_cell B4.out 2 rfl); (obtain ⟨p6, -⟩ := Hp.blk_cell B5.out 0 rfl); (obtain ⟨p7, -⟩ := Hp.blk_cell B5.out 1 rfl); (obtain ⟨p8, -⟩ := Hp.blk_cell B5.out 2 rfl); (obtain ⟨p9, -⟩ := Hp.blk_cell B5.out 3 rfl); (obtain ⟨p10, -⟩ := Hp.blk_cell B5.out 4 rfl); (obtain ⟨p11, -⟩ := Hp.blk_cell B6.out 0 rfl); (obtain ⟨p12, -⟩ := Hp.blk_cell B6.out 1 rfl); (obtain ⟨p13, -⟩ := Hp.blk_cell B6.out 2 rfl); (obtain ⟨p14, -⟩ := Hp.blk_cell B6.out 3 rfl); (obtain ⟨p15, -⟩ := Hp.blk_cell B6.out 4 rfl)))
              | (go_at_call 11; (with_reducible refine (K3.out _).mono ?_; rintro e w7 ⟨rfl, hb7⟩; clear p0 p1 p2 p3 p4 p5 p6 p7 p8 p9 p10 p11 p12 p13 p14 p15; replace HB := Lib.hid (HB.out.trans (hb7.mono HB.out.size)); replace B3 := Lib.hid (hb7.block _ (Hp.blk_lt B3.out) |>.trans B3.out); replace B4 := Lib.hid (hb7.block _ (Hp.blk_lt B4.out) |>.trans B4.out); replace B5 := Lib.hid (hb7.block _ (Hp.blk_lt B5.out) |>.trans B5.out); replace B6 := Lib.hid (hb7.block _ (Hp.blk_lt B6.out) |>.trans B6.out); clear hb7; (obtain ⟨p0, -⟩ := Hp.blk_cell B3.out 0 rfl); (obtain ⟨p1, -⟩ := Hp.blk_cell B3.out 1 rfl); (obtain ⟨p2, -⟩ := Hp.blk_cell B3.out 2 rfl); (obtain ⟨p3, -⟩ := Hp.blk_cell B4.out 0 rfl); (obtain ⟨p4, -⟩ := Hp.blk_cell B4.out 1 rfl); (obtain ⟨p5, -⟩ := Hp.blk_cell B4.out 2 rfl); (obtain ⟨p6, -⟩ := Hp.blk_cell B5.out 0 rfl); (obtain ⟨p7, -⟩ := Hp.blk_cell B5.out 1 rfl); (obtain ⟨p8, -⟩ := Hp.blk_cell B5.out 2 rfl); (obtain ⟨p9, -⟩ := Hp.blk_cell B5.out 3 rfl); (obtain ⟨p10, -⟩ := Hp.blk_cell B5.out 4 rfl); (obtain ⟨p11, -⟩ := Hp.blk_cell B6.out 0 rfl); (obtain ⟨p12, -⟩ := Hp.blk_cell B6.out 1 rfl); (obtain ⟨p13, -⟩ := Hp.blk_cell B6.out 2 rfl); (obtain ⟨p14, -⟩ := Hp.blk_cell B6.out 3 rfl); (obtain ⟨p15, -⟩ := Hp.blk_cell B6.out 4 rfl)))
              | (go_at_call 11; (with_reducible refine (K4.out _).mono ?_; rintro e w7 ⟨rfl, hb7⟩; clear p0 p1 p2 p3 p4 p5 p6 p7 p8 p9 p10 p11 p12 p13 p14 p15; replace HB := Lib.hid (HB.out.trans (hb7.mono HB.out.size)); replace B3 := Lib.hid (hb7.block _ (Hp.blk_lt B3.out) |>.trans B3.out); replace B4 := Lib.hid (hb7.block _ (Hp.blk_lt B4.out) |>.trans B4.out); replace B5 := Lib.hid (hb7.block _ (Hp.blk_lt B5.out) |>.trans B5.out); replace B6 := Lib.hid (hb7.block _ (Hp.blk_lt B6.out) |>.trans B6.out); clear hb7; (obtain ⟨p0, -⟩ := Hp.blk_cell B3.out 0 rfl); (obtain ⟨p1, -⟩ := Hp.blk_cell B3.out 1 rfl); (obtain ⟨p2, -⟩ := Hp.blk_cell B3.out 2 rfl); (obtain ⟨p3, -⟩ := Hp.blk_cell B4.out 0 rfl); (obtain ⟨p4, -⟩ := Hp.blk_cell B4.out 1 rfl); (obtain ⟨p5, -⟩ := Hp.blk_cell B4.out 2 rfl); (obtain ⟨p6, -⟩ := Hp.blk_cell B5.out 0 rfl); (obtain ⟨p7, -⟩ := Hp.blk_cell B5.out 1 rfl); (obtain ⟨p8, -⟩ := Hp.blk_cell B5.out 2 rfl); (obtain ⟨p9, -⟩ := Hp.blk_cell B5.out 3 rfl); (obtain ⟨p10, -⟩ := Hp.blk_cell B5.out 4 rfl); (obtain ⟨p11, -⟩ := Hp.blk_cell B6.out 0 rfl); (obtain ⟨p12, -⟩ := Hp.blk_cell B6.out 1 rfl); (obtain ⟨p13, -⟩ := Hp.blk_cell B6.out 2 rfl); (obtain ⟨p14, -⟩ := Hp.blk_cell B6.out 3 rfl); (obtain ⟨p15, -⟩ := Hp.blk_cell B6.out 4 rfl)))
              | (go_at_call 10; (with_reducible refine (K5.out _).mono ?_; rintro e w7 ⟨rfl, hb7⟩; clear p0 p1 p2 p3 p4 p5 p6 p7 p8 p9 p10 p11 p12 p13 p14 p15; replace HB := Lib.hid (HB.out.trans (hb7.mono HB.out.size)); replace B3 := Lib.hid (hb7.block _ (Hp.blk_lt B3.out) |>.trans B3.out); replace B4 := Lib.hid (hb7.block _ (Hp.blk_lt B4.out) |>.trans B4.out); replace B5 := Lib.hid (hb7.block _ (Hp.blk_lt B5.out) |>.trans B5.out); replace B6 := Lib.hid (hb7.block _ (Hp.blk_lt B6.out) |>.trans B6.out); clear hb7; (obtain ⟨p0, -⟩ := Hp.blk_cell B3.out 0 rfl); (obtain ⟨p1, -⟩ := Hp.blk_cell B3.out 1 rfl); (obtain ⟨p2, -⟩ := Hp.blk_cell B3.out 2 rfl); (obtain ⟨p3, -⟩ := Hp.blk_cell B4.out 0 rfl); (obtain ⟨p4, -⟩ := Hp.blk_cell B4.out 1 rfl); (obtain ⟨p5, -⟩ := Hp.blk_cell B4.out 2 rfl); (obtain ⟨p6, -⟩ := Hp.blk_cell B5.out 0 rfl); (obtain ⟨p7, -⟩ := Hp.blk_cell B5.out 1 rfl); (obtain ⟨p8, -⟩ := Hp.blk_cell B5.out 2 rfl); (obtain ⟨p9, -⟩ := Hp.blk_cell B5.out 3 rfl); (obtain ⟨p10, -⟩ := Hp.blk_cell B5.out 4 rfl); (obtain ⟨p11, -⟩ := Hp.blk_cell B6.out 0 rfl); (obtain ⟨p12, -⟩ := Hp.blk_cell B6.out 1 rfl); (obtain ⟨p13, -⟩ := Hp.blk_cell B6.out 2 rfl); (obtain ⟨p14, -⟩ := Hp.blk_cell B6.out 3 rfl); (obtain ⟨p15, -⟩ := Hp.blk_cell B6.out 4 rfl))))
          all_goals
            go_ret
            exact ⟨rfl, HB.out⟩
        · go_wp2_with (first
              | (go_at_call 9; (with_reducible refine (K1.out _).mono ?_; rintro e w7 ⟨rfl, hb7⟩; clear p0 p1 p2 p3 p4 p5 p6 p7 p8 p9 p10 p11 p12 p13 p14 p15; replace HB := Lib.hid (HB.out.trans (hb7.mono HB.out.size)); replace B3 := Lib.hid (hb7.block _ (Hp.blk_lt B3.out) |>.trans B3.out); replace B4 := Lib.hid (hb7.block _ (Hp.blk_lt B4.out) |>.trans B4.out); replace B5 := Lib.hid (hb7.block _ (Hp.blk_lt B5.out) |>.trans B5.out); replace B6 := Lib.hid (hb7.block _ (Hp.blk_lt B6.out) |>.trans B6.out); clear hb7; (obtain ⟨p0, -⟩ := Hp.blk_cell B3.out 0 rfl); (obtain ⟨p1, -⟩ := Hp.blk_cell B3.out 1 rfl); (obtain ⟨p2, -⟩ := Hp.blk_cell B3.out 2 rfl); (obtain ⟨p3, -⟩ := Hp.blk_cell B4.out 0 rfl); (obtain ⟨p4, -⟩ := Hp.blk_cell B4.out 1 rfl); (obtain ⟨p5, -⟩ := Hp.blk_cell B4.out 2 rfl); (obtain ⟨p6, -⟩ := Hp.blk_cell B5.out 0 rfl); (obtain ⟨p7, -⟩ := Hp.blk_cell B5.out 1 rfl); (obtain ⟨p8, -⟩ := Hp.blk_cell B5.out 2 rfl); (obtain ⟨p9, -⟩ := Hp.blk_cell B5.out 3 rfl); (obtain ⟨p10, -⟩ := Hp.blk_cell B5.out 4 rfl); (obtain ⟨p11, -⟩ := Hp.blk_cell B6.out 0 rfl); (obtain ⟨p12, -⟩ := Hp.blk_cell B6.out 1 rfl); (obtain ⟨p13, -⟩ := Hp.blk_cell B6.out 2 rfl); (obtain ⟨p14, -⟩ := Hp.blk_cell B6.out 3 rfl); (obtain ⟨p15, -⟩ := Hp.blk_cell B6.out 4 rfl)))
              | (go_at_call 9; (with_reducible refine (K2.out _).mono ?_; rintro e w7 ⟨rfl, hb7⟩; clear p0 p1 p2 p3 p4 p5 p6 p7 p8 p9 p10 p11 p12 p13 p14 p15; replace HB := Lib.hid (HB.out.trans (hb7.mono HB.out.size)); replace B3 := Lib.hid (hb7.block _ (Hp.blk_lt B3.out) |>.trans B3.out); replace B4 := Lib.hid (hb7.block _ (Hp.blk_lt B4.out) |>.trans B4.out); replace B5 := Lib.hid (hb7.block _ (Hp.blk_lt B5.out) |>.trans B5.out); replace B6 := Lib.hid (hb7.block _ (Hp.blk_lt B6.out) |>.trans B6.out); clear hb7; (obtain ⟨p0, -⟩ := Hp.blk_cell B3.out 0 rfl); (obtain ⟨p1, -⟩ := Hp.blk_cell B3.out 1 rfl); (obtain ⟨p2, -⟩ := Hp.blk_cell B3.out 2 rfl); (obtain ⟨p3, -⟩ := Hp.blk_cell B4.out 0 rfl); (obtain ⟨p4, -⟩ := Hp.blk_cell B4.out 1 rfl); (obtain ⟨p5, -⟩ := Hp.blk_cell B4.out 2 rfl); (obtain ⟨p6, -⟩ := Hp.blk_cell B5.out 0 rfl); (obtain ⟨p7, -⟩ := Hp.blk_cell B5.out 1 rfl); (obtain ⟨p8, -⟩ := Hp.blk_cell B5.out 2 rfl); (obtain ⟨p9, -⟩ := Hp.blk_cell B5.out 3 rfl); (obtain ⟨p10, -⟩ := Hp.blk_cell B5.out 4 rfl); (obtain ⟨p11, -⟩ := Hp.blk_cell B6.out 0 rfl); (obtain ⟨p12, -⟩ := Hp.blk_cell B6.out 1 rfl); (obtain ⟨p13, -⟩ := Hp.blk_cell B6.out 2 rfl); (obtain ⟨p14, -⟩ := Hp.blk_cell B6.out 3 rfl); (obtain ⟨p15, -⟩ := Hp.blk_cell B6.out 4 rfl)))
              | (go_at_call 11; (with_reducible refine (K3.out _).mono ?_; rintro e w7 ⟨rfl, hb7⟩; clear p0 p1 p2 p3 p4 p5 p6 p7 p8 p9 p10 p11 p12 p13 p14 p15; replace HB := Lib.hid (HB.out.trans (hb7.mono HB.out.size)); replace B3 := Lib.hid (hb7.block _ (Hp.blk_lt B3.out) |>.trans B3.out); replace B4 := Lib.hid (hb7.block _ (Hp.blk_lt B4.out) |>.trans B4.out); replace B5 := Lib.hid (hb7.block _ (Hp.blk_lt B5.out) |>.trans B5.out); replace B6 := Lib.hid (hb7.block _ (Hp.blk_lt B6.out) |>.trans B6.out); clear hb7; (obtain ⟨p0, -⟩ := Hp.blk_cell B3.out 0 rfl); (obtain ⟨p1, -⟩ := Hp.blk_cell B3.out 1 rfl); (obtain ⟨p2, -⟩ := Hp.blk_cell B3.out 2 rfl); (obtain ⟨p3, -⟩ := Hp.blk_cell B4.out 0 rfl); (obtain ⟨p4, -⟩ := Hp.blk_cell B4.out 1 rfl); (obtain ⟨p5, -⟩ := Hp.blk_cell B4.out 2 rfl); (obtain ⟨p6, -⟩ := Hp.blk_cell B5.out 0 rfl); (obtain ⟨p7, -⟩ := Hp.blk_cell B5.out 1 rfl); (obtain ⟨p8, -⟩ := Hp.blk_cell B5.out 2 rfl); (obtain ⟨p9, -⟩ := Hp.blk_cell B5.out 3 rfl); (obtain ⟨p10, -⟩ := Hp.blk_cell B5.out 4 rfl); (obtain ⟨p11, -⟩ := Hp.blk_cell B6.out 0 rfl); (obtain ⟨p12, -⟩ := Hp.blk_cell B6.out 1 rfl); (obtain ⟨p13, -⟩ := Hp.blk_cell B6.out 2 rfl); (obtain ⟨p14, -⟩ := Hp.blk_cell B6.out 3 rfl); (obtain ⟨p15, -⟩ := Hp.blk_cell B6.out 4 rfl)))
              | (go_at_call 11; (with_reducible refine (K4.out _).mono ?_; rintro e w7 ⟨rfl, hb7⟩; clear p0 p1 p2 p3 p4 p5 p6 p7 p8 p9 p10 p11 p12 p13 p14 p15; replace HB := Lib.hid (HB.out.trans (hb7.mono HB.out.size)); replace B3 := Lib.hid (hb7.block _ (Hp.blk_lt B3.out) |>.trans B3.out); replace B4 := Lib.hid (hb7.block _ (Hp.blk_lt B4.out) |>.trans B4.out); replace B5 := Lib.hid (hb7.block _ (Hp.blk_lt B5.out) |>.trans B5.out); replace B6 := Lib.hid (hb7.block _ (Hp.blk_lt B6.out) |>.trans B6.out); clear hb7; (obtain ⟨p0, -⟩ := Hp.blk_cell B3.out 0 rfl); (obtain ⟨p1, -⟩ := Hp.blk_cell B3.out 1 rfl); (obtain ⟨p2, -⟩ := Hp.blk_cell B3.out 2 rfl); (obtain ⟨p3, -⟩ := Hp.blk_cell B4.out 0 rfl); (obtain ⟨p4, -⟩ := Hp.blk_cell B4.out 1 rfl); (obtain ⟨p5, -⟩ := Hp.blk_cell B4.out 2 rfl); (obtain ⟨p6, -⟩ := Hp.blk_cell B5.out 0 rfl); (obtain ⟨p7, -⟩ := Hp.blk_cell B5.out 1 rfl); (obtain ⟨p8, -⟩ := Hp.blk_cell B5.out 2 rfl); (obtain ⟨p9, -⟩ := Hp.blk_cell B5.out 3 rfl); (obtain ⟨p10, -⟩ := Hp.blk_cell B5.out 4 rfl); (obtain ⟨p11, -⟩ := Hp.blk_cell B6.out 0 rfl); (obtain ⟨p12, -⟩ := Hp.blk_cell B6.out 1 rfl); (obtain ⟨p13, -⟩ := Hp.blk_cell B6.out 2 rfl); (obtain ⟨p14, -⟩ := Hp.blk_cell B6.out 3 rfl); (obtain ⟨p15, -⟩ := Hp.blk_cell B6.out 4 rfl)))
              | (go_at_call 10; (with_reducible refine (K5.out _).mono ?_; rintro e w7 ⟨rfl, hb7⟩; clear p0 p1 p2 p3 p4 p5 p6 p7 p8 p9 p10 p11 p12 p13 p14 p15; replace HB := Lib.hid (HB.out.trans (hb7.mono HB.out.size)); replace B3 := Lib.hid (hb7.block _ (Hp.blk_lt B3.out) |>.trans B3.out); replace B4 := Lib.hid (hb7.block _ (Hp.blk_lt B4.out) |>.trans B4.out); replace B5 := Lib.hid (hb7.block _ (Hp.blk_lt B5.out) |>.trans B5.out); replace B6 := Lib.hid (hb7.block _ (Hp.blk_lt B6.out) |>.trans B6.out); clear hb7; (obtain ⟨p0, -⟩ := Hp.blk_cell B3.out 0 rfl); (obtain ⟨p1, -⟩ := Hp.blk_cell B3.out 1 rfl); (obtain ⟨p2, -⟩ := Hp.blk_cell B3.out 2 rfl); (obtain ⟨p3, -⟩ := Hp.blk_cell B4.out 0 rfl); (obtain ⟨p4, -⟩ := Hp.blk_cell B4.out 1 rfl); (obtain ⟨p5, -⟩ := Hp.blk_cell B4.out 2 rfl); (obtain ⟨p6, -⟩ := Hp.blk_cell B5.out 0 rfl); (obtain ⟨p7, -⟩ := Hp.blk_cell B5.out 1 rfl); (obtain ⟨p8, -⟩ := Hp.blk_cell B5.out 2 rfl); (obtain ⟨p9, -⟩ := Hp.blk_cell B5.out 3 rfl); (obtain ⟨p10, -⟩ := Hp.blk_cell B5.out 4 rfl); (obtain ⟨p11, -⟩ := Hp.blk_cell B6.out 0 rfl); (obtain ⟨p12, -⟩ := Hp.blk_cell B6.out 1 rfl); (obtain ⟨p13, -⟩ := Hp.blk_cell B6.out 2 rfl); (obtain ⟨p14, -⟩ := Hp.blk_cell B6.out 3 rfl); (obtain ⟨p15, -⟩ := Hp.blk_cell B6.out 4 rfl))))
          all_goals
            go_ret
            refine ⟨?_, HB.out⟩
            have q := Q2.out (by simp) (by simp)
            clear K1 K2 K3 K4 K5 Q1 Q2 HB B3 B4 B5 B6 p0 p1 p2 p3 p4 p5 p6 p7 p8 p9 p10 p11 p12 p13 p14 p15
            simp only [Value.bool.injEq, Ending.returned.injEq, beq_iff_eq, Bool.not_eq_true', beq_eq_false_iff_ne, ne_eq, Array.getD_eq_getD_getElem?]
            go_simp
            try simp only [Value.bool.injEq, Ending.returned.injEq, beq_iff_eq, Bool.not_eq_true', beq_eq_false_iff_ne, ne_eq]
            try omega
    · have f2 : (e2 == 0) = false := by simp [hw]
      go_upto_region 6 with (first
          | (go_at_call 9; (with_reducible refine (K1.out _).mono ?_; rintro e w7 ⟨rfl, hb7⟩; clear p0 p1 p2 p3 p4 p5 p6 p7 p8 p9 p10 p11 p12 p13 p14 p15; replace HB := Lib.hid (HB.out.trans (hb7.mono HB.out.size)); replace B3 := Lib.hid (hb7.block _ (Hp.blk_lt B3.out) |>.trans B3.out); replace B4 := Lib.hid (hb7.block _ (Hp.blk_lt B4.out) |>.trans B4.out); replace B5 := Lib.hid (hb7.block _ (Hp.blk_lt B5.out) |>.trans B5.out); replace B6 := Lib.hid (hb7.block _ (Hp.blk_lt B6.out) |>.trans B6.out); clear hb7; (obtain ⟨p0, -⟩ := Hp.blk_cell B3.out 0 rfl); (obtain ⟨p1, -⟩ := Hp.blk_cell B3.out 1 rfl); (obtain ⟨p2, -⟩ := Hp.blk_cell B3.out 2 rfl); (obtain ⟨p3, -⟩ := Hp.blk_cell B4.out 0 rfl); (obtain ⟨p4, -⟩ := Hp.blk_cell B4.out 1 rfl); (obtain ⟨p5, -⟩ := Hp.blk_cell B4.out 2 rfl); (obtain ⟨p6, -⟩ := Hp.blk_cell B5.out 0 rfl); (obtain ⟨p7, -⟩ := Hp.blk_cell B5.out 1 rfl); (obtain ⟨p8, -⟩ := Hp.blk_cell B5.out 2 rfl); (obtain ⟨p9, -⟩ := Hp.blk_cell B5.out 3 rfl); (obtain ⟨p10, -⟩ := Hp.blk_cell B5.out 4 rfl); (obtain ⟨p11, -⟩ := Hp.blk_cell B6.out 0 rfl); (obtain ⟨p12, -⟩ := Hp.blk_cell B6.out 1 rfl); (obtain ⟨p13, -⟩ := Hp.blk_cell B6.out 2 rfl); (obtain ⟨p14, -⟩ := Hp.blk_cell B6.out 3 rfl); (obtain ⟨p15, -⟩ := Hp.blk_cell B6.out 4 rfl)))
          | (go_at_call 9; (with_reducible refine (K2.out _).mono ?_; rintro e w7 ⟨rfl, hb7⟩; clear p0 p1 p2 p3 p4 p5 p6 p7 p8 p9 p10 p11 p12 p13 p14 p15; replace HB := Lib.hid (HB.out.trans (hb7.mono HB.out.size)); replace B3 := Lib.hid (hb7.block _ (Hp.blk_lt B3.out) |>.trans B3.out); replace B4 := Lib.hid (hb7.block _ (Hp.blk_lt B4.out) |>.trans B4.out); replace B5 := Lib.hid (hb7.block _ (Hp.blk_lt B5.out) |>.trans B5.out); replace B6 := Lib.hid (hb7.block _ (Hp.blk_lt B6.out) |>.trans B6.out); clear hb7; (obtain ⟨p0, -⟩ := Hp.blk_cell B3.out 0 rfl); (obtain ⟨p1, -⟩ := Hp.blk_cell B3.out 1 rfl); (obtain ⟨p2, -⟩ := Hp.blk_cell B3.out 2 rfl); (obtain ⟨p3, -⟩ := Hp.blk_cell B4.out 0 rfl); (obtain ⟨p4, -⟩ := Hp.blk_cell B4.out 1 rfl); (obtain ⟨p5, -⟩ := Hp.blk_cell B4.out 2 rfl); (obtain ⟨p6, -⟩ := Hp.blk_cell B5.out 0 rfl); (obtain ⟨p7, -⟩ := Hp.blk_cell B5.out 1 rfl); (obtain ⟨p8, -⟩ := Hp.blk_cell B5.out 2 rfl); (obtain ⟨p9, -⟩ := Hp.blk_cell B5.out 3 rfl); (obtain ⟨p10, -⟩ := Hp.blk_cell B5.out 4 rfl); (obtain ⟨p11, -⟩ := Hp.blk_cell B6.out 0 rfl); (obtain ⟨p12, -⟩ := Hp.blk_cell B6.out 1 rfl); (obtain ⟨p13, -⟩ := Hp.blk_cell B6.out 2 rfl); (obtain ⟨p14, -⟩ := Hp.blk_cell B6.out 3 rfl); (obtain ⟨p15, -⟩ := Hp.blk_cell B6.out 4 rfl)))
          | (go_at_call 11; (with_reducible refine (K3.out _).mono ?_; rintro e w7 ⟨rfl, hb7⟩; clear p0 p1 p2 p3 p4 p5 p6 p7 p8 p9 p10 p11 p12 p13 p14 p15; replace HB := Lib.hid (HB.out.trans (hb7.mono HB.out.size)); replace B3 := Lib.hid (hb7.block _ (Hp.blk_lt B3.out) |>.trans B3.out); replace B4 := Lib.hid (hb7.block _ (Hp.blk_lt B4.out) |>.trans B4.out); replace B5 := Lib.hid (hb7.block _ (Hp.blk_lt B5.out) |>.trans B5.out); replace B6 := Lib.hid (hb7.block _ (Hp.blk_lt B6.out) |>.trans B6.out); clear hb7; (obtain ⟨p0, -⟩ := Hp.blk_cell B3.out 0 rfl); (obtain ⟨p1, -⟩ := Hp.blk_cell B3.out 1 rfl); (obtain ⟨p2, -⟩ := Hp.blk_cell B3.out 2 rfl); (obtain ⟨p3, -⟩ := Hp.blk_cell B4.out 0 rfl); (obtain ⟨p4, -⟩ := Hp.blk_cell B4.out 1 rfl); (obtain ⟨p5, -⟩ := Hp.blk_cell B4.out 2 rfl); (obtain ⟨p6, -⟩ := Hp.blk_cell B5.out 0 rfl); (obtain ⟨p7, -⟩ := Hp.blk_cell B5.out 1 rfl); (obtain ⟨p8, -⟩ := Hp.blk_cell B5.out 2 rfl); (obtain ⟨p9, -⟩ := Hp.blk_cell B5.out 3 rfl); (obtain ⟨p10, -⟩ := Hp.blk_cell B5.out 4 rfl); (obtain ⟨p11, -⟩ := Hp.blk_cell B6.out 0 rfl); (obtain ⟨p12, -⟩ := Hp.blk_cell B6.out 1 rfl); (obtain ⟨p13, -⟩ := Hp.blk_cell B6.out 2 rfl); (obtain ⟨p14, -⟩ := Hp.blk_cell B6.out 3 rfl); (obtain ⟨p15, -⟩ := Hp.blk_cell B6.out 4 rfl)))
          | (go_at_call 11; (with_reducible refine (K4.out _).mono ?_; rintro e w7 ⟨rfl, hb7⟩; clear p0 p1 p2 p3 p4 p5 p6 p7 p8 p9 p10 p11 p12 p13 p14 p15; replace HB := Lib.hid (HB.out.trans (hb7.mono HB.out.size)); replace B3 := Lib.hid (hb7.block _ (Hp.blk_lt B3.out) |>.trans B3.out); replace B4 := Lib.hid (hb7.block _ (Hp.blk_lt B4.out) |>.trans B4.out); replace B5 := Lib.hid (hb7.block _ (Hp.blk_lt B5.out) |>.trans B5.out); replace B6 := Lib.hid (hb7.block _ (Hp.blk_lt B6.out) |>.trans B6.out); clear hb7; (obtain ⟨p0, -⟩ := Hp.blk_cell B3.out 0 rfl); (obtain ⟨p1, -⟩ := Hp.blk_cell B3.out 1 rfl); (obtain ⟨p2, -⟩ := Hp.blk_cell B3.out 2 rfl); (obtain ⟨p3, -⟩ := Hp.blk_cell B4.out 0 rfl); (obtain ⟨p4, -⟩ := Hp.blk_cell B4.out 1 rfl); (obtain ⟨p5, -⟩ := Hp.blk_cell B4.out 2 rfl); (obtain ⟨p6, -⟩ := Hp.blk_cell B5.out 0 rfl); (obtain ⟨p7, -⟩ := Hp.blk_cell B5.out 1 rfl); (obtain ⟨p8, -⟩ := Hp.blk_cell B5.out 2 rfl); (obtain ⟨p9, -⟩ := Hp.blk_cell B5.out 3 rfl); (obtain ⟨p10, -⟩ := Hp.blk_cell B5.out 4 rfl); (obtain ⟨p11, -⟩ := Hp.blk_cell B6.out 0 rfl); (obtain ⟨p12, -⟩ := Hp.blk_cell B6.out 1 rfl); (obtain ⟨p13, -⟩ := Hp.blk_cell B6.out 2 rfl); (obtain ⟨p14, -⟩ := Hp.blk_cell B6.out 3 rfl); (obtain ⟨p15, -⟩ := Hp.blk_cell B6.out 4 rfl)))
          | (go_at_call 10; (with_reducible refine (K5.out _).mono ?_; rintro e w7 ⟨rfl, hb7⟩; clear p0 p1 p2 p3 p4 p5 p6 p7 p8 p9 p10 p11 p12 p13 p14 p15; replace HB := Lib.hid (HB.out.trans (hb7.mono HB.out.size)); replace B3 := Lib.hid (hb7.block _ (Hp.blk_lt B3.out) |>.trans B3.out); replace B4 := Lib.hid (hb7.block _ (Hp.blk_lt B4.out) |>.trans B4.out); replace B5 := Lib.hid (hb7.block _ (Hp.blk_lt B5.out) |>.trans B5.out); replace B6 := Lib.hid (hb7.block _ (Hp.blk_lt B6.out) |>.trans B6.out); clear hb7; (obtain ⟨p0, -⟩ := Hp.blk_cell B3.out 0 rfl); (obtain ⟨p1, -⟩ := Hp.blk_cell B3.out 1 rfl); (obtain ⟨p2, -⟩ := Hp.blk_cell B3.out 2 rfl); (obtain ⟨p3, -⟩ := Hp.blk_cell B4.out 0 rfl); (obtain ⟨p4, -⟩ := Hp.blk_cell B4.out 1 rfl); (obtain ⟨p5, -⟩ := Hp.blk_cell B4.out 2 rfl); (obtain ⟨p6, -⟩ := Hp.blk_cell B5.out 0 rfl); (obtain ⟨p7, -⟩ := Hp.blk_cell B5.out 1 rfl); (obtain ⟨p8, -⟩ := Hp.blk_cell B5.out 2 rfl); (obtain ⟨p9, -⟩ := Hp.blk_cell B5.out 3 rfl); (obtain ⟨p10, -⟩ := Hp.blk_cell B5.out 4 rfl); (obtain ⟨p11, -⟩ := Hp.blk_cell B6.out 0 rfl); (obtain ⟨p12, -⟩ := Hp.blk_cell B6.out 1 rfl); (obtain ⟨p13, -⟩ := Hp.blk_cell B6.out 2 rfl); (obtain ⟨p14, -⟩ := Hp.blk_cell B6.out 3 rfl); (obtain ⟨p15, -⟩ := Hp.blk_cell B6.out 4 rfl))))
      all_goals
        rcases hw2 with hw2 | ⟨rfl, hw2⟩ | ⟨rfl, rfl⟩
        · have f4 : (e3 != 0) = true := by simp [hw2]
          go_wp2_with (first
              | (go_at_call 9; (with_reducible refine (K1.out _).mono ?_; rintro e w7 ⟨rfl, hb7⟩; clear p0 p1 p2 p3 p4 p5 p6 p7 p8 p9 p10 p11 p12 p13 p14 p15; replace HB := Lib.hid (HB.out.trans (hb7.mono HB.out.size)); replace B3 := Lib.hid (hb7.block _ (Hp.blk_lt B3.out) |>.trans B3.out); replace B4 := Lib.hid (hb7.block _ (Hp.blk_lt B4.out) |>.trans B4.out); replace B5 := Lib.hid (hb7.block _ (Hp.blk_lt B5.out) |>.trans B5.out); replace B6 := Lib.hid (hb7.block _ (Hp.blk_lt B6.out) |>.trans B6.out); clear hb7; (obtain ⟨p0, -⟩ := Hp.blk_cell B3.out 0 rfl); (obtain ⟨p1, -⟩ := Hp.blk_cell B3.out 1 rfl); (obtain ⟨p2, -⟩ := Hp.blk_cell B3.out 2 rfl); (obtain ⟨p3, -⟩ := Hp.blk_cell B4.out 0 rfl); (obtain ⟨p4, -⟩ := Hp.blk_cell B4.out 1 rfl); (obtain ⟨p5, -⟩ := Hp.blk_cell B4.out 2 rfl); (obtain ⟨p6, -⟩ := Hp.blk_cell B5.out 0 rfl); (obtain ⟨p7, -⟩ := Hp.blk_cell B5.out 1 rfl); (obtain ⟨p8, -⟩ := Hp.blk_cell B5.out 2 rfl); (obtain ⟨p9, -⟩ := Hp.blk_cell B5.out 3 rfl); (obtain ⟨p10, -⟩ := Hp.blk_cell B5.out 4 rfl); (obtain ⟨p11, -⟩ := Hp.blk_cell B6.out 0 rfl); (obtain ⟨p12, -⟩ := Hp.blk_cell B6.out 1 rfl); (obtain ⟨p13, -⟩ := Hp.blk_cell B6.out 2 rfl); (obtain ⟨p14, -⟩ := Hp.blk_cell B6.out 3 rfl); (obtain ⟨p15, -⟩ := Hp.blk_cell B6.out 4 rfl)))
              | (go_at_call 9; (with_reducible refine (K2.out _).mono ?_; rintro e w7 ⟨rfl, hb7⟩; clear p0 p1 p2 p3 p4 p5 p6 p7 p8 p9 p10 p11 p12 p13 p14 p15; replace HB := Lib.hid (HB.out.trans (hb7.mono HB.out.size)); replace B3 := Lib.hid (hb7.block _ (Hp.blk_lt B3.out) |>.trans B3.out); replace B4 := Lib.hid (hb7.block _ (Hp.blk_lt B4.out) |>.trans B4.out); replace B5 := Lib.hid (hb7.block _ (Hp.blk_lt B5.out) |>.trans B5.out); replace B6 := Lib.hid (hb7.block _ (Hp.blk_lt B6.out) |>.trans B6.out); clear hb7; (obtain ⟨p0, -⟩ := Hp.blk_cell B3.out 0 rfl); (obtain ⟨p1, -⟩ := Hp.blk_cell B3.out 1 rfl); (obtain ⟨p2, -⟩ := Hp.blk_cell B3.out 2 rfl); (obtain ⟨p3, -⟩ := Hp.blk_cell B4.out 0 rfl); (obtain ⟨p4, -⟩ := Hp.blk_cell B4.out 1 rfl); (obtain ⟨p5, -⟩ := Hp.blk_cell B4.out 2 rfl); (obtain ⟨p6, -⟩ := Hp.blk_cell B5.out 0 rfl); (obtain ⟨p7, -⟩ := Hp.blk_cell B5.out 1 rfl); (obtain ⟨p8, -⟩ := Hp.blk_cell B5.out 2 rfl); (obtain ⟨p9, -⟩ := Hp.blk_cell B5.out 3 rfl); (obtain ⟨p10, -⟩ := Hp.blk_cell B5.out 4 rfl); (obtain ⟨p11, -⟩ := Hp.blk_cell B6.out 0 rfl); (obtain ⟨p12, -⟩ := Hp.blk_cell B6.out 1 rfl); (obtain ⟨p13, -⟩ := Hp.blk_cell B6.out 2 rfl); (obtain ⟨p14, -⟩ := Hp.blk_cell B6.out 3 rfl); (obtain ⟨p15, -⟩ := Hp.blk_cell B6.out 4 rfl)))
              | (go_at_call 11; (with_reducible refine (K3.out _).mono ?_; rintro e w7 ⟨rfl, hb7⟩; clear p0 p1 p2 p3 p4 p5 p6 p7 p8 p9 p10 p11 p12 p13 p14 p15; replace HB := Lib.hid (HB.out.trans (hb7.mono HB.out.size)); replace B3 := Lib.hid (hb7.block _ (Hp.blk_lt B3.out) |>.trans B3.out); replace B4 := Lib.hid (hb7.block _ (Hp.blk_lt B4.out) |>.trans B4.out); replace B5 := Lib.hid (hb7.block _ (Hp.blk_lt B5.out) |>.trans B5.out); replace B6 := Lib.hid (hb7.block _ (Hp.blk_lt B6.out) |>.trans B6.out); clear hb7; (obtain ⟨p0, -⟩ := Hp.blk_cell B3.out 0 rfl); (obtain ⟨p1, -⟩ := Hp.blk_cell B3.out 1 rfl); (obtain ⟨p2, -⟩ := Hp.blk_cell B3.out 2 rfl); (obtain ⟨p3, -⟩ := Hp.blk_cell B4.out 0 rfl); (obtain ⟨p4, -⟩ := Hp.blk_cell B4.out 1 rfl); (obtain ⟨p5, -⟩ := Hp.blk_cell B4.out 2 rfl); (obtain ⟨p6, -⟩ := Hp.blk_cell B5.out 0 rfl); (obtain ⟨p7, -⟩ := Hp.blk_cell B5.out 1 rfl); (obtain ⟨p8, -⟩ := Hp.blk_cell B5.out 2 rfl); (obtain ⟨p9, -⟩ := Hp.blk_cell B5.out 3 rfl); (obtain ⟨p10, -⟩ := Hp.blk_cell B5.out 4 rfl); (obtain ⟨p11, -⟩ := Hp.blk_cell B6.out 0 rfl); (obtain ⟨p12, -⟩ := Hp.blk_cell B6.out 1 rfl); (obtain ⟨p13, -⟩ := Hp.blk_cell B6.out 2 rfl); (obtain ⟨p14, -⟩ := Hp.blk_cell B6.out 3 rfl); (obtain ⟨p15, -⟩ := Hp.blk_cell B6.out 4 rfl)))
              | (go_at_call 11; (with_reducible refine (K4.out _).mono ?_; rintro e w7 ⟨rfl, hb7⟩; clear p0 p1 p2 p3 p4 p5 p6 p7 p8 p9 p10 p11 p12 p13 p14 p15; replace HB := Lib.hid (HB.out.trans (hb7.mono HB.out.size)); replace B3 := Lib.hid (hb7.block _ (Hp.blk_lt B3.out) |>.trans B3.out); replace B4 := Lib.hid (hb7.block _ (Hp.blk_lt B4.out) |>.trans B4.out); replace B5 := Lib.hid (hb7.block _ (Hp.blk_lt B5.out) |>.trans B5.out); replace B6 := Lib.hid (hb7.block _ (Hp.blk_lt B6.out) |>.trans B6.out); clear hb7; (obtain ⟨p0, -⟩ := Hp.blk_cell B3.out 0 rfl); (obtain ⟨p1, -⟩ := Hp.blk_cell B3.out 1 rfl); (obtain ⟨p2, -⟩ := Hp.blk_cell B3.out 2 rfl); (obtain ⟨p3, -⟩ := Hp.blk_cell B4.out 0 rfl); (obtain ⟨p4, -⟩ := Hp.blk_cell B4.out 1 rfl); (obtain ⟨p5, -⟩ := Hp.blk_cell B4.out 2 rfl); (obtain ⟨p6, -⟩ := Hp.blk_cell B5.out 0 rfl); (obtain ⟨p7, -⟩ := Hp.blk_cell B5.out 1 rfl); (obtain ⟨p8, -⟩ := Hp.blk_cell B5.out 2 rfl); (obtain ⟨p9, -⟩ := Hp.blk_cell B5.out 3 rfl); (obtain ⟨p10, -⟩ := Hp.blk_cell B5.out 4 rfl); (obtain ⟨p11, -⟩ := Hp.blk_cell B6.out 0 rfl); (obtain ⟨p12, -⟩ := Hp.blk_cell B6.out 1 rfl); (obtain ⟨p13, -⟩ := Hp.blk_cell B6.out 2 rfl); (obtain ⟨p14, -⟩ := Hp.blk_cell B6.out 3 rfl); (obtain ⟨p15, -⟩ := Hp.blk_cell B6.out 4 rfl)))
              | (go_at_call 10; (with_reducible refine (K5.out _).mono ?_; rintro e w7 ⟨rfl, hb7⟩; clear p0 p1 p2 p3 p4 p5 p6 p7 p8 p9 p10 p11 p12 p13 p14 p15; replace HB := Lib.hid (HB.out.trans (hb7.mono HB.out.size)); replace B3 := Lib.hid (hb7.block _ (Hp.blk_lt B3.out) |>.trans B3.out); replace B4 := Lib.hid (hb7.block _ (Hp.blk_lt B4.out) |>.trans B4.out); replace B5 := Lib.hid (hb7.block _ (Hp.blk_lt B5.out) |>.trans B5.out); replace B6 := Lib.hid (hb7.block _ (Hp.blk_lt B6.out) |>.trans B6.out); clear hb7; (obtain ⟨p0, -⟩ := Hp.blk_cell B3.out 0 rfl); (obtain ⟨p1, -⟩ := Hp.blk_cell B3.out 1 rfl); (obtain ⟨p2, -⟩ := Hp.blk_cell B3.out 2 rfl); (obtain ⟨p3, -⟩ := Hp.blk_cell B4.out 0 rfl); (obtain ⟨p4, -⟩ := Hp.blk_cell B4.out 1 rfl); (obtain ⟨p5, -⟩ := Hp.blk_cell B4.out 2 rfl); (obtain ⟨p6, -⟩ := Hp.blk_cell B5.out 0 rfl); (obtain ⟨p7, -⟩ := Hp.blk_cell B5.out 1 rfl); (obtain ⟨p8, -⟩ := Hp.blk_cell B5.out 2 rfl); (obtain ⟨p9, -⟩ := Hp.blk_cell B5.out 3 rfl); (obtain ⟨p10, -⟩ := Hp.blk_cell B5.out 4 rfl); (obtain ⟨p11, -⟩ := Hp.blk_cell B6.out 0 rfl); (obtain ⟨p12, -⟩ := Hp.blk_cell B6.out 1 rfl); (obtain ⟨p13, -⟩ := Hp.blk_cell B6.out 2 rfl); (obtain ⟨p14, -⟩ := Hp.blk_cell B6.out 3 rfl); (obtain ⟨p15, -⟩ := Hp.blk_cell B6.out 4 rfl))))
          all_goals
            go_ret
            exact ⟨rfl, HB.out⟩
        · have f5 : (e4 != 0) = true := by simp [hw2]
          go_wp2_with (first
              | (go_at_call 9; (with_reducible refine (K1.out _).mono ?_; rintro e w7 ⟨rfl, hb7⟩; clear p0 p1 p2 p3 p4 p5 p6 p7 p8 p9 p10 p11 p12 p13 p14 p15; replace HB := Lib.hid (HB.out.trans (hb7.mono HB.out.size)); replace B3 := Lib.hid (hb7.block _ (Hp.blk_lt B3.out) |>.trans B3.out); replace B4 := Lib.hid (hb7.block _ (Hp.blk_lt B4.out) |>.trans B4.out); replace B5 := Lib.hid (hb7.block _ (Hp.blk_lt B5.out) |>.trans B5.out); replace B6 := Lib.hid (hb7.block _ (Hp.blk_lt B6.out) |>.trans B6.out); clear hb7; (obtain ⟨p0, -⟩ := Hp.blk_cell B3.out 0 rfl); (obtain ⟨p1, -⟩ := Hp.blk_cell B3.out 1 rfl); (obtain ⟨p2, -⟩ := Hp.blk_cell B3.out 2 rfl); (obtain ⟨p3, -⟩ := Hp.blk_cell B4.out 0 rfl); (obtain ⟨p4, -⟩ := Hp.blk_cell B4.out 1 rfl); (obtain ⟨p5, -⟩ := Hp.blk_cell B4.out 2 rfl); (obtain ⟨p6, -⟩ := Hp.blk_cell B5.out 0 rfl); (obtain ⟨p7, -⟩ := Hp.blk_cell B5.out 1 rfl); (obtain ⟨p8, -⟩ := Hp.blk_cell B5.out 2 rfl); (obtain ⟨p9, -⟩ := Hp.blk_cell B5.out 3 rfl); (obtain ⟨p10, -⟩ := Hp.blk_cell B5.out 4 rfl); (obtain ⟨p11, -⟩ := Hp.blk_cell B6.out 0 rfl); (obtain ⟨p12, -⟩ := Hp.blk_cell B6.out 1 rfl); (obtain ⟨p13, -⟩ := Hp.blk_cell B6.out 2 rfl); (obtain ⟨p14, -⟩ := Hp.blk_cell B6.out 3 rfl); (obtain ⟨p15, -⟩ := Hp.blk_cell B6.out 4 rfl)))
              | (go_at_call 9; (with_reducible refine (K2.out _).mono ?_; rintro e w7 ⟨rfl, hb7⟩; clear p0 p1 p2 p3 p4 p5 p6 p7 p8 p9 p10 p11 p12 p13 p14 p15; replace HB := Lib.hid (HB.out.trans (hb7.mono HB.out.size)); replace B3 := Lib.hid (hb7.block _ (Hp.blk_lt B3.out) |>.trans B3.out); replace B4 := Lib.hid (hb7.block _ (Hp.blk_lt B4.out) |>.trans B4.out); replace B5 := Lib.hid (hb7.block _ (Hp.blk_lt B5.out) |>.trans B5.out); replace B6 := Lib.hid (hb7.block _ (Hp.blk_lt B6.out) |>.trans B6.out); clear hb7; (obtain ⟨p0, -⟩ := Hp.blk_cell B3.out 0 rfl); (obtain ⟨p1, -⟩ := Hp.blk_cell B3.out 1 rfl); (obtain ⟨p2, -⟩ := Hp.blk_cell B3.out 2 rfl); (obtain ⟨p3, -⟩ := Hp.blk_cell B4.out 0 rfl); (obtain ⟨p4, -⟩ := Hp.blk_cell B4.out 1 rfl); (obtain ⟨p5, -⟩ := Hp.blk_cell B4.out 2 rfl); (obtain ⟨p6, -⟩ := Hp.blk_cell B5.out 0 rfl); (obtain ⟨p7, -⟩ := Hp.blk_cell B5.out 1 rfl); (obtain ⟨p8, -⟩ := Hp.blk_cell B5.out 2 rfl); (obtain ⟨p9, -⟩ := Hp.blk_cell B5.out 3 rfl); (obtain ⟨p10, -⟩ := Hp.blk_cell B5.out 4 rfl); (obtain ⟨p11, -⟩ := Hp.blk_cell B6.out 0 rfl); (obtain ⟨p12, -⟩ := Hp.blk_cell B6.out 1 rfl); (obtain ⟨p13, -⟩ := Hp.blk_cell B6.out 2 rfl); (obtain ⟨p14, -⟩ := Hp.blk_cell B6.out 3 rfl); (obtain ⟨p15, -⟩ := Hp.blk_cell B6.out 4 rfl)))
              | (go_at_call 11; (with_reducible refine (K3.out _).mono ?_; rintro e w7 ⟨rfl, hb7⟩; clear p0 p1 p2 p3 p4 p5 p6 p7 p8 p9 p10 p11 p12 p13 p14 p15; replace HB := Lib.hid (HB.out.trans (hb7.mono HB.out.size)); replace B3 := Lib.hid (hb7.block _ (Hp.blk_lt B3.out) |>.trans B3.out); replace B4 := Lib.hid (hb7.block _ (Hp.blk_lt B4.out) |>.trans B4.out); replace B5 := Lib.hid (hb7.block _ (Hp.blk_lt B5.out) |>.trans B5.out); replace B6 := Lib.hid (hb7.block _ (Hp.blk_lt B6.out) |>.trans B6.out); clear hb7; (obtain ⟨p0, -⟩ := Hp.blk_cell B3.out 0 rfl); (obtain ⟨p1, -⟩ := Hp.blk_cell B3.out 1 rfl); (obtain ⟨p2, -⟩ := Hp.blk_cell B3.out 2 rfl); (obtain ⟨p3, -⟩ := Hp.blk_cell B4.out 0 rfl); (obtain ⟨p4, -⟩ := Hp.blk_cell B4.out 1 rfl); (obtain ⟨p5, -⟩ := Hp.blk_cell B4.out 2 rfl); (obtain ⟨p6, -⟩ := Hp.blk_cell B5.out 0 rfl); (obtain ⟨p7, -⟩ := Hp.blk_cell B5.out 1 rfl); (obtain ⟨p8, -⟩ := Hp.blk_cell B5.out 2 rfl); (obtain ⟨p9, -⟩ := Hp.blk_cell B5.out 3 rfl); (obtain ⟨p10, -⟩ := Hp.blk_cell B5.out 4 rfl); (obtain ⟨p11, -⟩ := Hp.blk_cell B6.out 0 rfl); (obtain ⟨p12, -⟩ := Hp.blk_cell B6.out 1 rfl); (obtain ⟨p13, -⟩ := Hp.blk_cell B6.out 2 rfl); (obtain ⟨p14, -⟩ := Hp.blk_cell B6.out 3 rfl); (obtain ⟨p15, -⟩ := Hp.blk_cell B6.out 4 rfl)))
              | (go_at_call 11; (with_reducible refine (K4.out _).mono ?_; rintro e w7 ⟨rfl, hb7⟩; clear p0 p1 p2 p3 p4 p5 p6 p7 p8 p9 p10 p11 p12 p13 p14 p15; replace HB := Lib.hid (HB.out.trans (hb7.mono HB.out.size)); replace B3 := Lib.hid (hb7.block _ (Hp.blk_lt B3.out) |>.trans B3.out); replace B4 := Lib.hid (hb7.block _ (Hp.blk_lt B4.out) |>.trans B4.out); replace B5 := Lib.hid (hb7.block _ (Hp.blk_lt B5.out) |>.trans B5.out); replace B6 := Lib.hid (hb7.block _ (Hp.blk_lt B6.out) |>.trans B6.out); clear hb7; (obtain ⟨p0, -⟩ := Hp.blk_cell B3.out 0 rfl); (obtain ⟨p1, -⟩ := Hp.blk_cell B3.out 1 rfl); (obtain ⟨p2, -⟩ := Hp.blk_cell B3.out 2 rfl); (obtain ⟨p3, -⟩ := Hp.blk_cell B4.out 0 rfl); (obtain ⟨p4, -⟩ := Hp.blk_cell B4.out 1 rfl); (obtain ⟨p5, -⟩ := Hp.blk_cell B4.out 2 rfl); (obtain ⟨p6, -⟩ := Hp.blk_cell B5.out 0 rfl); (obtain ⟨p7, -⟩ := Hp.blk_cell B5.out 1 rfl); (obtain ⟨p8, -⟩ := Hp.blk_cell B5.out 2 rfl); (obtain ⟨p9, -⟩ := Hp.blk_cell B5.out 3 rfl); (obtain ⟨p10, -⟩ := Hp.blk_cell B5.out 4 rfl); (obtain ⟨p11, -⟩ := Hp.blk_cell B6.out 0 rfl); (obtain ⟨p12, -⟩ := Hp.blk_cell B6.out 1 rfl); (obtain ⟨p13, -⟩ := Hp.blk_cell B6.out 2 rfl); (obtain ⟨p14, -⟩ := Hp.blk_cell B6.out 3 rfl); (obtain ⟨p15, -⟩ := Hp.blk_cell B6.out 4 rfl)))
              | (go_at_call 10; (with_reducible refine (K5.out _).mono ?_; rintro e w7 ⟨rfl, hb7⟩; clear p0 p1 p2 p3 p4 p5 p6 p7 p8 p9 p10 p11 p12 p13 p14 p15; replace HB := Lib.hid (HB.out.trans (hb7.mono HB.out.size)); replace B3 := Lib.hid (hb7.block _ (Hp.blk_lt B3.out) |>.trans B3.out); replace B4 := Lib.hid (hb7.block _ (Hp.blk_lt B4.out) |>.trans B4.out); replace B5 := Lib.hid (hb7.block _ (Hp.blk_lt B5.out) |>.trans B5.out); replace B6 := Lib.hid (hb7.block _ (Hp.blk_lt B6.out) |>.trans B6.out); clear hb7; (obtain ⟨p0, -⟩ := Hp.blk_cell B3.out 0 rfl); (obtain ⟨p1, -⟩ := Hp.blk_cell B3.out 1 rfl); (obtain ⟨p2, -⟩ := Hp.blk_cell B3.out 2 rfl); (obtain ⟨p3, -⟩ := Hp.blk_cell B4.out 0 rfl); (obtain ⟨p4, -⟩ := Hp.blk_cell B4.out 1 rfl); (obtain ⟨p5, -⟩ := Hp.blk_cell B4.out 2 rfl); (obtain ⟨p6, -⟩ := Hp.blk_cell B5.out 0 rfl); (obtain ⟨p7, -⟩ := Hp.blk_cell B5.out 1 rfl); (obtain ⟨p8, -⟩ := Hp.blk_cell B5.out 2 rfl); (obtain ⟨p9, -⟩ := Hp.blk_cell B5.out 3 rfl); (obtain ⟨p10, -⟩ := Hp.blk_cell B5.out 4 rfl); (obtain ⟨p11, -⟩ := Hp.blk_cell B6.out 0 rfl); (obtain ⟨p12, -⟩ := Hp.blk_cell B6.out 1 rfl); (obtain ⟨p13, -⟩ := Hp.blk_cell B6.out 2 rfl); (obtain ⟨p14, -⟩ := Hp.blk_cell B6.out 3 rfl); (obtain ⟨p15, -⟩ := Hp.blk_cell B6.out 4 rfl))))
          all_goals
            go_ret
            exact ⟨rfl, HB.out⟩
        · go_wp2_with (first
              | (go_at_call 9; (with_reducible refine (K1.out _).mono ?_; rintro e w7 ⟨rfl, hb7⟩; clear p0 p1 p2 p3 p4 p5 p6 p7 p8 p9 p10 p11 p12 p13 p14 p15; replace HB := Lib.hid (HB.out.trans (hb7.mono HB.out.size)); replace B3 := Lib.hid (hb7.block _ (Hp.blk_lt B3.out) |>.trans B3.out); replace B4 := Lib.hid (hb7.block _ (Hp.blk_lt B4.out) |>.trans B4.out); replace B5 := Lib.hid (hb7.block _ (Hp.blk_lt B5.out) |>.trans B5.out); replace B6 := Lib.hid (hb7.block _ (Hp.blk_lt B6.out) |>.trans B6.out); clear hb7; (obtain ⟨p0, -⟩ := Hp.blk_cell B3.out 0 rfl); (obtain ⟨p1, -⟩ := Hp.blk_cell B3.out 1 rfl); (obtain ⟨p2, -⟩ := Hp.blk_cell B3.out 2 rfl); (obtain ⟨p3, -⟩ := Hp.blk_cell B4.out 0 rfl); (obtain ⟨p4, -⟩ := Hp.blk_cell B4.out 1 rfl); (obtain ⟨p5, -⟩ := Hp.blk_cell B4.out 2 rfl); (obtain ⟨p6, -⟩ := Hp.blk_cell B5.out 0 rfl); (obtain ⟨p7, -⟩ := Hp.blk_cell B5.out 1 rfl); (obtain ⟨p8, -⟩ := Hp.blk_cell B5.out 2 rfl); (obtain ⟨p9, -⟩ := Hp.blk_cell B5.out 3 rfl); (obtain ⟨p10, -⟩ := Hp.blk_cell B5.out 4 rfl); (obtain ⟨p11, -⟩ := Hp.blk_cell B6.out 0 rfl); (obtain ⟨p12, -⟩ := Hp.blk_cell B6.out 1 rfl); (obtain ⟨p13, -⟩ := Hp.blk_cell B6.out 2 rfl); (obtain ⟨p14, -⟩ := Hp.blk_cell B6.out 3 rfl); (obtain ⟨p15, -⟩ := Hp.blk_cell B6.out 4 rfl)))
              | (go_at_call 9; (with_reducible refine (K2.out _).mono ?_; rintro e w7 ⟨rfl, hb7⟩; clear p0 p1 p2 p3 p4 p5 p6 p7 p8 p9 p10 p11 p12 p13 p14 p15; replace HB := Lib.hid (HB.out.trans (hb7.mono HB.out.size)); replace B3 := Lib.hid (hb7.block _ (Hp.blk_lt B3.out) |>.trans B3.out); replace B4 := Lib.hid (hb7.block _ (Hp.blk_lt B4.out) |>.trans B4.out); replace B5 := Lib.hid (hb7.block _ (Hp.blk_lt B5.out) |>.trans B5.out); replace B6 := Lib.hid (hb7.block _ (Hp.blk_lt B6.out) |>.trans B6.out); clear hb7; (obtain ⟨p0, -⟩ := Hp.blk_cell B3.out 0 rfl); (obtain ⟨p1, -⟩ := Hp.blk_cell B3.out 1 rfl); (obtain ⟨p2, -⟩ := Hp.blk_cell B3.out 2 rfl); (obtain ⟨p3, -⟩ := Hp.blk_cell B4.out 0 rfl); (obtain ⟨p4, -⟩ := Hp.blk_cell B4.out 1 rfl); (obtain ⟨p5, -⟩ := Hp.blk_cell B4.out 2 rfl); (obtain ⟨p6, -⟩ := Hp.blk_cell B5.out 0 rfl); (obtain ⟨p7, -⟩ := Hp.blk_cell B5.out 1 rfl); (obtain ⟨p8, -⟩ := Hp.blk_cell B5.out 2 rfl); (obtain ⟨p9, -⟩ := Hp.blk_cell B5.out 3 rfl); (obtain ⟨p10, -⟩ := Hp.blk_cell B5.out 4 rfl); (obtain ⟨p11, -⟩ := Hp.blk_cell B6.out 0 rfl); (obtain ⟨p12, -⟩ := Hp.blk_cell B6.out 1 rfl); (obtain ⟨p13, -⟩ := Hp.blk_cell B6.out 2 rfl); (obtain ⟨p14, -⟩ := Hp.blk_cell B6.out 3 rfl); (obtain ⟨p15, -⟩ := Hp.blk_cell B6.out 4 rfl)))
              | (go_at_call 11; (with_reducible refine (K3.out _).mono ?_; rintro e w7 ⟨rfl, hb7⟩; clear p0 p1 p2 p3 p4 p5 p6 p7 p8 p9 p10 p11 p12 p13 p14 p15; replace HB := Lib.hid (HB.out.trans (hb7.mono HB.out.size)); replace B3 := Lib.hid (hb7.block _ (Hp.blk_lt B3.out) |>.trans B3.out); replace B4 := Lib.hid (hb7.block _ (Hp.blk_lt B4.out) |>.trans B4.out); replace B5 := Lib.hid (hb7.block _ (Hp.blk_lt B5.out) |>.trans B5.out); replace B6 := Lib.hid (hb7.block _ (Hp.blk_lt B6.out) |>.trans B6.out); clear hb7; (obtain ⟨p0, -⟩ := Hp.blk_cell B3.out 0 rfl); (obtain ⟨p1, -⟩ := Hp.blk_cell B3.out 1 rfl); (obtain ⟨p2, -⟩ := Hp.blk_cell B3.out 2 rfl); (obtain ⟨p3, -⟩ := Hp.blk_cell B4.out 0 rfl); (obtain ⟨p4, -⟩ := Hp.blk_cell B4.out 1 rfl); (obtain ⟨p5, -⟩ := Hp.blk_cell B4.out 2 rfl); (obtain ⟨p6, -⟩ := Hp.blk_cell B5.out 0 rfl); (obtain ⟨p7, -⟩ := Hp.blk_cell B5.out 1 rfl); (obtain ⟨p8, -⟩ := Hp.blk_cell B5.out 2 rfl); (obtain ⟨p9, -⟩ := Hp.blk_cell B5.out 3 rfl); (obtain ⟨p10, -⟩ := Hp.blk_cell B5.out 4 rfl); (obtain ⟨p11, -⟩ := Hp.blk_cell B6.out 0 rfl); (obtain ⟨p12, -⟩ := Hp.blk_cell B6.out 1 rfl); (obtain ⟨p13, -⟩ := Hp.blk_cell B6.out 2 rfl); (obtain ⟨p14, -⟩ := Hp.blk_cell B6.out 3 rfl); (obtain ⟨p15, -⟩ := Hp.blk_cell B6.out 4 rfl)))
              | (go_at_call 11; (with_reducible refine (K4.out _).mono ?_; rintro e w7 ⟨rfl, hb7⟩; clear p0 p1 p2 p3 p4 p5 p6 p7 p8 p9 p10 p11 p12 p13 p14 p15; replace HB := Lib.hid (HB.out.trans (hb7.mono HB.out.size)); replace B3 := Lib.hid (hb7.block _ (Hp.blk_lt B3.out) |>.trans B3.out); replace B4 := Lib.hid (hb7.block _ (Hp.blk_lt B4.out) |>.trans B4.out); replace B5 := Lib.hid (hb7.block _ (Hp.blk_lt B5.out) |>.trans B5.out); replace B6 := Lib.hid (hb7.block _ (Hp.blk_lt B6.out) |>.trans B6.out); clear hb7; (obtain ⟨p0, -⟩ := Hp.blk_cell B3.out 0 rfl); (obtain ⟨p1, -⟩ := Hp.blk_cell B3.out 1 rfl); (obtain ⟨p2, -⟩ := Hp.blk_cell B3.out 2 rfl); (obtain ⟨p3, -⟩ := Hp.blk_cell B4.out 0 rfl); (obtain ⟨p4, -⟩ := Hp.blk_cell B4.out 1 rfl); (obtain ⟨p5, -⟩ := Hp.blk_cell B4.out 2 rfl); (obtain ⟨p6, -⟩ := Hp.blk_cell B5.out 0 rfl); (obtain ⟨p7, -⟩ := Hp.blk_cell B5.out 1 rfl); (obtain ⟨p8, -⟩ := Hp.blk_cell B5.out 2 rfl); (obtain ⟨p9, -⟩ := Hp.blk_cell B5.out 3 rfl); (obtain ⟨p10, -⟩ := Hp.blk_cell B5.out 4 rfl); (obtain ⟨p11, -⟩ := Hp.blk_cell B6.out 0 rfl); (obtain ⟨p12, -⟩ := Hp.blk_cell B6.out 1 rfl); (obtain ⟨p13, -⟩ := Hp.blk_cell B6.out 2 rfl); (obtain ⟨p14, -⟩ := Hp.blk_cell B6.out 3 rfl); (obtain ⟨p15, -⟩ := Hp.blk_cell B6.out 4 rfl)))
              | (go_at_call 10; (with_reducible refine (K5.out _).mono ?_; rintro e w7 ⟨rfl, hb7⟩; clear p0 p1 p2 p3 p4 p5 p6 p7 p8 p9 p10 p11 p12 p13 p14 p15; replace HB := Lib.hid (HB.out.trans (hb7.mono HB.out.size)); replace B3 := Lib.hid (hb7.block _ (Hp.blk_lt B3.out) |>.trans B3.out); replace B4 := Lib.hid (hb7.block _ (Hp.blk_lt B4.out) |>.trans B4.out); replace B5 := Lib.hid (hb7.block _ (Hp.blk_lt B5.out) |>.trans B5.out); replace B6 := Lib.hid (hb7.block _ (Hp.blk_lt B6.out) |>.trans B6.out); clear hb7; (obtain ⟨p0, -⟩ := Hp.blk_cell B3.out 0 rfl); (obtain ⟨p1, -⟩ := Hp.blk_cell B3.out 1 rfl); (obtain ⟨p2, -⟩ := Hp.blk_cell B3.out 2 rfl); (obtain ⟨p3, -⟩ := Hp.blk_cell B4.out 0 rfl); (obtain ⟨p4, -⟩ := Hp.blk_cell B4.out 1 rfl); (obtain ⟨p5, -⟩ := Hp.blk_cell B4.out 2 rfl); (obtain ⟨p6, -⟩ := Hp.blk_cell B5.out 0 rfl); (obtain ⟨p7, -⟩ := Hp.blk_cell B5.out 1 rfl); (obtain ⟨p8, -⟩ := Hp.blk_cell B5.out 2 rfl); (obtain ⟨p9, -⟩ := Hp.blk_cell B5.out 3 rfl); (obtain ⟨p10, -⟩ := Hp.blk_cell B5.out 4 rfl); (obtain ⟨p11, -⟩ := Hp.blk_cell B6.out 0 rfl); (obtain ⟨p12, -⟩ := Hp.blk_cell B6.out 1 rfl); (obtain ⟨p13, -⟩ := Hp.blk_cell B6.out 2 rfl); (obtain ⟨p14, -⟩ := Hp.blk_cell B6.out 3 rfl); (obtain ⟨p15, -⟩ := Hp.blk_cell B6.out 4 rfl))))
          all_goals
            go_ret
            refine ⟨?_, HB.out⟩
            have q := Q2.out (by simp) (by simp)
            clear K1 K2 K3 K4 K5 Q1 Q2 HB B3 B4 B5 B6 p0 p1 p2 p3 p4 p5 p6 p7 p8 p9 p10 p11 p12 p13 p14 p15
            simp only [Value.bool.injEq, Ending.returned.injEq, beq_iff_eq, Bool.not_eq_true', beq_eq_false_iff_ne, ne_eq, Array.getD_eq_getD_getElem?]
            go_simp
            try simp only [Value.bool.injEq, Ending.returned.injEq, beq_iff_eq, Bool.not_eq_true', beq_eq_false_iff_ne, ne_eq]
            try omega
    · have f3 := Q1.out (by simp) (by simp)
      have F3 := Lib.hid f3
      clear f3
      go_upto_region 6 with (first
          | (go_at_call 9; (with_reducible refine (K1.out _).mono ?_; rintro e w7 ⟨rfl, hb7⟩; clear p0 p1 p2 p3 p4 p5 p6 p7 p8 p9 p10 p11 p12 p13 p14 p15; replace HB := Lib.hid (HB.out.trans (hb7.mono HB.out.size)); replace B3 := Lib.hid (hb7.block _ (Hp.blk_lt B3.out) |>.trans B3.out); replace B4 := Lib.hid (hb7.block _ (Hp.blk_lt B4.out) |>.trans B4.out); replace B5 := Lib.hid (hb7.block _ (Hp.blk_lt B5.out) |>.trans B5.out); replace B6 := Lib.hid (hb7.block _ (Hp.blk_lt B6.out) |>.trans B6.out); clear hb7; (obtain ⟨p0, -⟩ := Hp.blk_cell B3.out 0 rfl); (obtain ⟨p1, -⟩ := Hp.blk_cell B3.out 1 rfl); (obtain ⟨p2, -⟩ := Hp.blk_cell B3.out 2 rfl); (obtain ⟨p3, -⟩ := Hp.blk_cell B4.out 0 rfl); (obtain ⟨p4, -⟩ := Hp.blk_cell B4.out 1 rfl); (obtain ⟨p5, -⟩ := Hp.blk_cell B4.out 2 rfl); (obtain ⟨p6, -⟩ := Hp.blk_cell B5.out 0 rfl); (obtain ⟨p7, -⟩ := Hp.blk_cell B5.out 1 rfl); (obtain ⟨p8, -⟩ := Hp.blk_cell B5.out 2 rfl); (obtain ⟨p9, -⟩ := Hp.blk_cell B5.out 3 rfl); (obtain ⟨p10, -⟩ := Hp.blk_cell B5.out 4 rfl); (obtain ⟨p11, -⟩ := Hp.blk_cell B6.out 0 rfl); (obtain ⟨p12, -⟩ := Hp.blk_cell B6.out 1 rfl); (obtain ⟨p13, -⟩ := Hp.blk_cell B6.out 2 rfl); (obtain ⟨p14, -⟩ := Hp.blk_cell B6.out 3 rfl); (obtain ⟨p15, -⟩ := Hp.blk_cell B6.out 4 rfl)))
          | (go_at_call 9; (with_reducible refine (K2.out _).mono ?_; rintro e w7 ⟨rfl, hb7⟩; clear p0 p1 p2 p3 p4 p5 p6 p7 p8 p9 p10 p11 p12 p13 p14 p15; replace HB := Lib.hid (HB.out.trans (hb7.mono HB.out.size)); replace B3 := Lib.hid (hb7.block _ (Hp.blk_lt B3.out) |>.trans B3.out); replace B4 := Lib.hid (hb7.block _ (Hp.blk_lt B4.out) |>.trans B4.out); replace B5 := Lib.hid (hb7.block _ (Hp.blk_lt B5.out) |>.trans B5.out); replace B6 := Lib.hid (hb7.block _ (Hp.blk_lt B6.out) |>.trans B6.out); clear hb7; (obtain ⟨p0, -⟩ := Hp.blk_cell B3.out 0 rfl); (obtain ⟨p1, -⟩ := Hp.blk_cell B3.out 1 rfl); (obtain ⟨p2, -⟩ := Hp.blk_cell B3.out 2 rfl); (obtain ⟨p3, -⟩ := Hp.blk_cell B4.out 0 rfl); (obtain ⟨p4, -⟩ := Hp.blk_cell B4.out 1 rfl); (obtain ⟨p5, -⟩ := Hp.blk_cell B4.out 2 rfl); (obtain ⟨p6, -⟩ := Hp.blk_cell B5.out 0 rfl); (obtain ⟨p7, -⟩ := Hp.blk_cell B5.out 1 rfl); (obtain ⟨p8, -⟩ := Hp.blk_cell B5.out 2 rfl); (obtain ⟨p9, -⟩ := Hp.blk_cell B5.out 3 rfl); (obtain ⟨p10, -⟩ := Hp.blk_cell B5.out 4 rfl); (obtain ⟨p11, -⟩ := Hp.blk_cell B6.out 0 rfl); (obtain ⟨p12, -⟩ := Hp.blk_cell B6.out 1 rfl); (obtain ⟨p13, -⟩ := Hp.blk_cell B6.out 2 rfl); (obtain ⟨p14, -⟩ := Hp.blk_cell B6.out 3 rfl); (obtain ⟨p15, -⟩ := Hp.blk_cell B6.out 4 rfl)))
          | (go_at_call 11; (with_reducible refine (K3.out _).mono ?_; rintro e w7 ⟨rfl, hb7⟩; clear p0 p1 p2 p3 p4 p5 p6 p7 p8 p9 p10 p11 p12 p13 p14 p15; replace HB := Lib.hid (HB.out.trans (hb7.mono HB.out.size)); replace B3 := Lib.hid (hb7.block _ (Hp.blk_lt B3.out) |>.trans B3.out); replace B4 := Lib.hid (hb7.block _ (Hp.blk_lt B4.out) |>.trans B4.out); replace B5 := Lib.hid (hb7.block _ (Hp.blk_lt B5.out) |>.trans B5.out); replace B6 := Lib.hid (hb7.block _ (Hp.blk_lt B6.out) |>.trans B6.out); clear hb7; (obtain ⟨p0, -⟩ := Hp.blk_cell B3.out 0 rfl); (obtain ⟨p1, -⟩ := Hp.blk_cell B3.out 1 rfl); (obtain ⟨p2, -⟩ := Hp.blk_cell B3.out 2 rfl); (obtain ⟨p3, -⟩ := Hp.blk_cell B4.out 0 rfl); (obtain ⟨p4, -⟩ := Hp.blk_cell B4.out 1 rfl); (obtain ⟨p5, -⟩ := Hp.blk_cell B4.out 2 rfl); (obtain ⟨p6, -⟩ := Hp.blk_cell B5.out 0 rfl); (obtain ⟨p7, -⟩ := Hp.blk_cell B5.out 1 rfl); (obtain ⟨p8, -⟩ := Hp.blk_cell B5.out 2 rfl); (obtain ⟨p9, -⟩ := Hp.blk_cell B5.out 3 rfl); (obtain ⟨p10, -⟩ := Hp.blk_cell B5.out 4 rfl); (obtain ⟨p11, -⟩ := Hp.blk_cell B6.out 0 rfl); (obtain ⟨p12, -⟩ := Hp.blk_cell B6.out 1 rfl); (obtain ⟨p13, -⟩ := Hp.blk_cell B6.out 2 rfl); (obtain ⟨p14, -⟩ := Hp.blk_cell B6.out 3 rfl); (obtain ⟨p15, -⟩ := Hp.blk_cell B6.out 4 rfl)))
          | (go_at_call 11; (with_reducible refine (K4.out _).mono ?_; rintro e w7 ⟨rfl, hb7⟩; clear p0 p1 p2 p3 p4 p5 p6 p7 p8 p9 p10 p11 p12 p13 p14 p15; replace HB := Lib.hid (HB.out.trans (hb7.mono HB.out.size)); replace B3 := Lib.hid (hb7.block _ (Hp.blk_lt B3.out) |>.trans B3.out); replace B4 := Lib.hid (hb7.block _ (Hp.blk_lt B4.out) |>.trans B4.out); replace B5 := Lib.hid (hb7.block _ (Hp.blk_lt B5.out) |>.trans B5.out); replace B6 := Lib.hid (hb7.block _ (Hp.blk_lt B6.out) |>.trans B6.out); clear hb7; (obtain ⟨p0, -⟩ := Hp.blk_cell B3.out 0 rfl); (obtain ⟨p1, -⟩ := Hp.blk_cell B3.out 1 rfl); (obtain ⟨p2, -⟩ := Hp.blk_cell B3.out 2 rfl); (obtain ⟨p3, -⟩ := Hp.blk_cell B4.out 0 rfl); (obtain ⟨p4, -⟩ := Hp.blk_cell B4.out 1 rfl); (obtain ⟨p5, -⟩ := Hp.blk_cell B4.out 2 rfl); (obtain ⟨p6, -⟩ := Hp.blk_cell B5.out 0 rfl); (obtain ⟨p7, -⟩ := Hp.blk_cell B5.out 1 rfl); (obtain ⟨p8, -⟩ := Hp.blk_cell B5.out 2 rfl); (obtain ⟨p9, -⟩ := Hp.blk_cell B5.out 3 rfl); (obtain ⟨p10, -⟩ := Hp.blk_cell B5.out 4 rfl); (obtain ⟨p11, -⟩ := Hp.blk_cell B6.out 0 rfl); (obtain ⟨p12, -⟩ := Hp.blk_cell B6.out 1 rfl); (obtain ⟨p13, -⟩ := Hp.blk_cell B6.out 2 rfl); (obtain ⟨p14, -⟩ := Hp.blk_cell B6.out 3 rfl); (obtain ⟨p15, -⟩ := Hp.blk_cell B6.out 4 rfl)))
          | (go_at_call 10; (with_reducible refine (K5.out _).mono ?_; rintro e w7 ⟨rfl, hb7⟩; clear p0 p1 p2 p3 p4 p5 p6 p7 p8 p9 p10 p11 p12 p13 p14 p15; replace HB := Lib.hid (HB.out.trans (hb7.mono HB.out.size)); replace B3 := Lib.hid (hb7.block _ (Hp.blk_lt B3.out) |>.trans B3.out); replace B4 := Lib.hid (hb7.block _ (Hp.blk_lt B4.out) |>.trans B4.out); replace B5 := Lib.hid (hb7.block _ (Hp.blk_lt B5.out) |>.trans B5.out); replace B6 := Lib.hid (hb7.block _ (Hp.blk_lt B6.out) |>.trans B6.out); clear hb7; (obtain ⟨p0, -⟩ := Hp.blk_cell B3.out 0 rfl); (obtain ⟨p1, -⟩ := Hp.blk_cell B3.out 1 rfl); (obtain ⟨p2, -⟩ := Hp.blk_cell B3.out 2 rfl); (obtain ⟨p3, -⟩ := Hp.blk_cell B4.out 0 rfl); (obtain ⟨p4, -⟩ := Hp.blk_cell B4.out 1 rfl); (obtain ⟨p5, -⟩ := Hp.blk_cell B4.out 2 rfl); (obtain ⟨p6, -⟩ := Hp.blk_cell B5.out 0 rfl); (obtain ⟨p7, -⟩ := Hp.blk_cell B5.out 1 rfl); (obtain ⟨p8, -⟩ := Hp.blk_cell B5.out 2 rfl); (obtain ⟨p9, -⟩ := Hp.blk_cell B5.out 3 rfl); (obtain ⟨p10, -⟩ := Hp.blk_cell B5.out 4 rfl); (obtain ⟨p11, -⟩ := Hp.blk_cell B6.out 0 rfl); (obtain ⟨p12, -⟩ := Hp.blk_cell B6.out 1 rfl); (obtain ⟨p13, -⟩ := Hp.blk_cell B6.out 2 rfl); (obtain ⟨p14, -⟩ := Hp.blk_cell B6.out 3 rfl); (obtain ⟨p15, -⟩ := Hp.blk_cell B6.out 4 rfl))))
      all_goals try (exfalso; have q := F3.out; clear K1 K2 K3 K4 K5 Q1 Q2 HB B3 B4 B5 B6 p0 p1 p2 p3 p4 p5 p6 p7 p8 p9 p10 p11 p12 p13 p14 p15; (try simp only [beq_iff_eq, Bool.not_eq_true', beq_eq_false_iff_ne, ne_eq, bne_iff_ne, Bool.not_eq_true, Bool.not_eq_false] at *); omega)
      all_goals
        rcases hw2 with hw2 | ⟨rfl, hw2⟩ | ⟨rfl, rfl⟩
        · have f4 : (e3 != 0) = true := by simp [hw2]
          go_wp2_with (first
              | (go_at_call 9; (with_reducible refine (K1.out _).mono ?_; rintro e w7 ⟨rfl, hb7⟩; clear p0 p1 p2 p3 p4 p5 p6 p7 p8 p9 p10 p11 p12 p13 p14 p15; replace HB := Lib.hid (HB.out.trans (hb7.mono HB.out.size)); replace B3 := Lib.hid (hb7.block _ (Hp.blk_lt B3.out) |>.trans B3.out); replace B4 := Lib.hid (hb7.block _ (Hp.blk_lt B4.out) |>.trans B4.out); replace B5 := Lib.hid (hb7.block _ (Hp.blk_lt B5.out) |>.trans B5.out); replace B6 := Lib.hid (hb7.block _ (Hp.blk_lt B6.out) |>.trans B6.out); clear hb7; (obtain ⟨p0, -⟩ := Hp.blk_cell B3.out 0 rfl); (obtain ⟨p1, -⟩ := Hp.blk_cell B3.out 1 rfl); (obtain ⟨p2, -⟩ := Hp.blk_cell B3.out 2 rfl); (obtain ⟨p3, -⟩ := Hp.blk_cell B4.out 0 rfl); (obtain ⟨p4, -⟩ := Hp.blk_cell B4.out 1 rfl); (obtain ⟨p5, -⟩ := Hp.blk_cell B4.out 2 rfl); (obtain ⟨p6, -⟩ := Hp.blk_cell B5.out 0 rfl); (obtain ⟨p7, -⟩ := Hp.blk_cell B5.out 1 rfl); (obtain ⟨p8, -⟩ := Hp.blk_cell B5.out 2 rfl); (obtain ⟨p9, -⟩ := Hp.blk_cell B5.out 3 rfl); (obtain ⟨p10, -⟩ := Hp.blk_cell B5.out 4 rfl); (obtain ⟨p11, -⟩ := Hp.blk_cell B6.out 0 rfl); (obtain ⟨p12, -⟩ := Hp.blk_cell B6.out 1 rfl); (obtain ⟨p13, -⟩ := Hp.blk_cell B6.out 2 rfl); (obtain ⟨p14, -⟩ := Hp.blk_cell B6.out 3 rfl); (obtain ⟨p15, -⟩ := Hp.blk_cell B6.out 4 rfl)))
              | (go_at_call 9; (with_reducible refine (K2.out _).mono ?_; rintro e w7 ⟨rfl, hb7⟩; clear p0 p1 p2 p3 p4 p5 p6 p7 p8 p9 p10 p11 p12 p13 p14 p15; replace HB := Lib.hid (HB.out.trans (hb7.mono HB.out.size)); replace B3 := Lib.hid (hb7.block _ (Hp.blk_lt B3.out) |>.trans B3.out); replace B4 := Lib.hid (hb7.block _ (Hp.blk_lt B4.out) |>.trans B4.out); replace B5 := Lib.hid (hb7.block _ (Hp.blk_lt B5.out) |>.trans B5.out); replace B6 := Lib.hid (hb7.block _ (Hp.blk_lt B6.out) |>.trans B6.out); clear hb7; (obtain ⟨p0, -⟩ := Hp.blk_cell B3.out 0 rfl); (obtain ⟨p1, -⟩ := Hp.blk_cell B3.out 1 rfl); (obtain ⟨p2, -⟩ := Hp.blk_cell B3.out 2 rfl); (obtain ⟨p3, -⟩ := Hp.blk_cell B4.out 0 rfl); (obtain ⟨p4, -⟩ := Hp.blk_cell B4.out 1 rfl); (obtain ⟨p5, -⟩ := Hp.blk_cell B4.out 2 rfl); (obtain ⟨p6, -⟩ := Hp.blk_cell B5.out 0 rfl); (obtain ⟨p7, -⟩ := Hp.blk_cell B5.out 1 rfl); (obtain ⟨p8, -⟩ := Hp.blk_cell B5.out 2 rfl); (obtain ⟨p9, -⟩ := Hp.blk_cell B5.out 3 rfl); (obtain ⟨p10, -⟩ := Hp.blk_cell B5.out 4 rfl); (obtain ⟨p11, -⟩ := Hp.blk_cell B6.out 0 rfl); (obtain ⟨p12, -⟩ := Hp.blk_cell B6.out 1 rfl); (obtain ⟨p13, -⟩ := Hp.blk_cell B6.out 2 rfl); (obtain ⟨p14, -⟩ := Hp.blk_cell B6.out 3 rfl); (obtain ⟨p15, -⟩ := Hp.blk_cell B6.out 4 rfl)))
              | (go_at_call 11; (with_reducible refine (K3.out _).mono ?_; rintro e w7 ⟨rfl, hb7⟩; clear p0 p1 p2 p3 p4 p5 p6 p7 p8 p9 p10 p11 p12 p13 p14 p15; replace HB := Lib.hid (HB.out.trans (hb7.mono HB.out.size)); replace B3 := Lib.hid (hb7.block _ (Hp.blk_lt B3.out) |>.trans B3.out); replace B4 := Lib.hid (hb7.block _ (Hp.blk_lt B4.out) |>.trans B4.out); replace B5 := Lib.hid (hb7.block _ (Hp.blk_lt B5.out) |>.trans B5.out); replace B6 := Lib.hid (hb7.block _ (Hp.blk_lt B6.out) |>.trans B6.out); clear hb7; (obtain ⟨p0, -⟩ := Hp.blk_cell B3.out 0 rfl); (obtain ⟨p1, -⟩ := Hp.blk_cell B3.out 1 rfl); (obtain ⟨p2, -⟩ := Hp.blk_cell B3.out 2 rfl); (obtain ⟨p3, -⟩ := Hp.blk_cell B4.out 0 rfl); (obtain ⟨p4, -⟩ := Hp.blk_cell B4.out 1 rfl); (obtain ⟨p5, -⟩ := Hp.blk_cell B4.out 2 rfl); (obtain ⟨p6, -⟩ := Hp.blk_cell B5.out 0 rfl); (obtain ⟨p7, -⟩ := Hp.blk_cell B5.out 1 rfl); (obtain ⟨p8, -⟩ := Hp.blk_cell B5.out 2 rfl); (obtain ⟨p9, -⟩ := Hp.blk_cell B5.out 3 rfl); (obtain ⟨p10, -⟩ := Hp.blk_cell B5.out 4 rfl); (obtain ⟨p11, -⟩ := Hp.blk_cell B6.out 0 rfl); (obtain ⟨p12, -⟩ := Hp.blk_cell B6.out 1 rfl); (obtain ⟨p13, -⟩ := Hp.blk_cell B6.out 2 rfl); (obtain ⟨p14, -⟩ := Hp.blk_cell B6.out 3 rfl); (obtain ⟨p15, -⟩ := Hp.blk_cell B6.out 4 rfl)))
              | (go_at_call 11; (with_reducible refine (K4.out _).mono ?_; rintro e w7 ⟨rfl, hb7⟩; clear p0 p1 p2 p3 p4 p5 p6 p7 p8 p9 p10 p11 p12 p13 p14 p15; replace HB := Lib.hid (HB.out.trans (hb7.mono HB.out.size)); replace B3 := Lib.hid (hb7.block _ (Hp.blk_lt B3.out) |>.trans B3.out); replace B4 := Lib.hid (hb7.block _ (Hp.blk_lt B4.out) |>.trans B4.out); replace B5 := Lib.hid (hb7.block _ (Hp.blk_lt B5.out) |>.trans B5.out); replace B6 := Lib.hid (hb7.block _ (Hp.blk_lt B6.out) |>.trans B6.out); clear hb7; (obtain ⟨p0, -⟩ := Hp.blk_cell B3.out 0 rfl); (obtain ⟨p1, -⟩ := Hp.blk_cell B3.out 1 rfl); (obtain ⟨p2, -⟩ := Hp.blk_cell B3.out 2 rfl); (obtain ⟨p3, -⟩ := Hp.blk_cell B4.out 0 rfl); (obtain ⟨p4, -⟩ := Hp.blk_cell B4.out 1 rfl); (obtain ⟨p5, -⟩ := Hp.blk_cell B4.out 2 rfl); (obtain ⟨p6, -⟩ := Hp.blk_cell B5.out 0 rfl); (obtain ⟨p7, -⟩ := Hp.blk_cell B5.out 1 rfl); (obtain ⟨p8, -⟩ := Hp.blk_cell B5.out 2 rfl); (obtain ⟨p9, -⟩ := Hp.blk_cell B5.out 3 rfl); (obtain ⟨p10, -⟩ := Hp.blk_cell B5.out 4 rfl); (obtain ⟨p11, -⟩ := Hp.blk_cell B6.out 0 rfl); (obtain ⟨p12, -⟩ := Hp.blk_cell B6.out 1 rfl); (obtain ⟨p13, -⟩ := Hp.blk_cell B6.out 2 rfl); (obtain ⟨p14, -⟩ := Hp.blk_cell B6.out 3 rfl); (obtain ⟨p15, -⟩ := Hp.blk_cell B6.out 4 rfl)))
              | (go_at_call 10; (with_reducible refine (K5.out _).mono ?_; rintro e w7 ⟨rfl, hb7⟩; clear p0 p1 p2 p3 p4 p5 p6 p7 p8 p9 p10 p11 p12 p13 p14 p15; replace HB := Lib.hid (HB.out.trans (hb7.mono HB.out.size)); replace B3 := Lib.hid (hb7.block _ (Hp.blk_lt B3.out) |>.trans B3.out); replace B4 := Lib.hid (hb7.block _ (Hp.blk_lt B4.out) |>.trans B4.out); replace B5 := Lib.hid (hb7.block _ (Hp.blk_lt B5.out) |>.trans B5.out); replace B6 := Lib.hid (hb7.block _ (Hp.blk_lt B6.out) |>.trans B6.out); clear hb7; (obtain ⟨p0, -⟩ := Hp.blk_cell B3.out 0 rfl); (obtain ⟨p1, -⟩ := Hp.blk_cell B3.out 1 rfl); (obtain ⟨p2, -⟩ := Hp.blk_cell B3.out 2 rfl); (obtain ⟨p3, -⟩ := Hp.blk_cell B4.out 0 rfl); (obtain ⟨p4, -⟩ := Hp.blk_cell B4.out 1 rfl); (obtain ⟨p5, -⟩ := Hp.blk_cell B4.out 2 rfl); (obtain ⟨p6, -⟩ := Hp.blk_cell B5.out 0 rfl); (obtain ⟨p7, -⟩ := Hp.blk_cell B5.out 1 rfl); (obtain ⟨p8, -⟩ := Hp.blk_cell B5.out 2 rfl); (obtain ⟨p9, -⟩ := Hp.blk_cell B5.out 3 rfl); (obtain ⟨p10, -⟩ := Hp.blk_cell B5.out 4 rfl); (obtain ⟨p11, -⟩ := Hp.blk_cell B6.out 0 rfl); (obtain ⟨p12, -⟩ := Hp.blk_cell B6.out 1 rfl); (obtain ⟨p13, -⟩ := Hp.blk_cell B6.out 2 rfl); (obtain ⟨p14, -⟩ := Hp.blk_cell B6.out 3 rfl); (obtain ⟨p15, -⟩ := Hp.blk_cell B6.out 4 rfl))))
          all_goals
            go_ret
            exact ⟨rfl, HB.out⟩
        · have f5 : (e4 != 0) = true := by simp [hw2]
          go_wp2_with (first
              | (go_at_call 9; (with_reducible refine (K1.out _).mono ?_; rintro e w7 ⟨rfl, hb7⟩; clear p0 p1 p2 p3 p4 p5 p6 p7 p8 p9 p10 p11 p12 p13 p14 p15; replace HB := Lib.hid (HB.out.trans (hb7.mono HB.out.size)); replace B3 := Lib.hid (hb7.block _ (Hp.blk_lt B3.out) |>.trans B3.out); replace B4 := Lib.hid (hb7.block _ (Hp.blk_lt B4.out) |>.trans B4.out); replace B5 := Lib.hid (hb7.block _ (Hp.blk_lt B5.out) |>.trans B5.out); replace B6 := Lib.hid (hb7.block _ (Hp.blk_lt B6.out) |>.trans B6.out); clear hb7; (obtain ⟨p0, -⟩ := Hp.blk_cell B3.out 0 rfl); (obtain ⟨p1, -⟩ := Hp.blk_cell B3.out 1 rfl); (obtain ⟨p2, -⟩ := Hp.blk_cell B3.out 2 rfl); (obtain ⟨p3, -⟩ := Hp.blk_cell B4.out 0 rfl); (obtain ⟨p4, -⟩ := Hp.blk_cell B4.out 1 rfl); (obtain ⟨p5, -⟩ := Hp.blk_cell B4.out 2 rfl); (obtain ⟨p6, -⟩ := Hp.blk_cell B5.out 0 rfl); (obtain ⟨p7, -⟩ := Hp.blk_cell B5.out 1 rfl); (obtain ⟨p8, -⟩ := Hp.blk_cell B5.out 2 rfl); (obtain ⟨p9, -⟩ := Hp.blk_cell B5.out 3 rfl); (obtain ⟨p10, -⟩ := Hp.blk_cell B5.out 4 rfl); (obtain ⟨p11, -⟩ := Hp.blk_cell B6.out 0 rfl); (obtain ⟨p12, -⟩ := Hp.blk_cell B6.out 1 rfl); (obtain ⟨p13, -⟩ := Hp.blk_cell B6.out 2 rfl); (obtain ⟨p14, -⟩ := Hp.blk_cell B6.out 3 rfl); (obtain ⟨p15, -⟩ := Hp.blk_cell B6.out 4 rfl)))
              | (go_at_call 9; (with_reducible refine (K2.out _).mono ?_; rintro e w7 ⟨rfl, hb7⟩; clear p0 p1 p2 p3 p4 p5 p6 p7 p8 p9 p10 p11 p12 p13 p14 p15; replace HB := Lib.hid (HB.out.trans (hb7.mono HB.out.size)); replace B3 := Lib.hid (hb7.block _ (Hp.blk_lt B3.out) |>.trans B3.out); replace B4 := Lib.hid (hb7.block _ (Hp.blk_lt B4.out) |>.trans B4.out); replace B5 := Lib.hid (hb7.block _ (Hp.blk_lt B5.out) |>.trans B5.out); replace B6 := Lib.hid (hb7.block _ (Hp.blk_lt B6.out) |>.trans B6.out); clear hb7; (obtain ⟨p0, -⟩ := Hp.blk_cell B3.out 0 rfl); (obtain ⟨p1, -⟩ := Hp.blk_cell B3.out 1 rfl); (obtain ⟨p2, -⟩ := Hp.blk_cell B3.out 2 rfl); (obtain ⟨p3, -⟩ := Hp.blk_cell B4.out 0 rfl); (obtain ⟨p4, -⟩ := Hp.blk_cell B4.out 1 rfl); (obtain ⟨p5, -⟩ := Hp.blk_cell B4.out 2 rfl); (obtain ⟨p6, -⟩ := Hp.blk_cell B5.out 0 rfl); (obtain ⟨p7, -⟩ := Hp.blk_cell B5.out 1 rfl); (obtain ⟨p8, -⟩ := Hp.blk_cell B5.out 2 rfl); (obtain ⟨p9, -⟩ := Hp.blk_cell B5.out 3 rfl); (obtain ⟨p10, -⟩ := Hp.blk_cell B5.out 4 rfl); (obtain ⟨p11, -⟩ := Hp.blk_cell B6.out 0 rfl); (obtain ⟨p12, -⟩ := Hp.blk_cell B6.out 1 rfl); (obtain ⟨p13, -⟩ := Hp.blk_cell B6.out 2 rfl); (obtain ⟨p14, -⟩ := Hp.blk_cell B6.out 3 rfl); (obtain ⟨p15, -⟩ := Hp.blk_cell B6.out 4 rfl)))
              | (go_at_call 11; (with_reducible refine (K3.out _).mono ?_; rintro e w7 ⟨rfl, hb7⟩; clear p0 p1 p2 p3 p4 p5 p6 p7 p8 p9 p10 p11 p12 p13 p14 p15; replace HB := Lib.hid (HB.out.trans (hb7.mono HB.out.size)); replace B3 := Lib.hid (hb7.block _ (Hp.blk_lt B3.out) |>.trans B3.out); replace B4 := Lib.hid (hb7.block _ (Hp.blk_lt B4.out) |>.trans B4.out); replace B5 := Lib.hid (hb7.block _ (Hp.blk_lt B5.out) |>.trans B5.out); replace B6 := Lib.hid (hb7.block _ (Hp.blk_lt B6.out) |>.trans B6.out); clear hb7; (obtain ⟨p0, -⟩ := Hp.blk_cell B3.out 0 rfl); (obtain ⟨p1, -⟩ := Hp.blk_cell B3.out 1 rfl); (obtain ⟨p2, -⟩ := Hp.blk_cell B3.out 2 rfl); (obtain ⟨p3, -⟩ := Hp.blk_cell B4.out 0 rfl); (obtain ⟨p4, -⟩ := Hp.blk_cell B4.out 1 rfl); (obtain ⟨p5, -⟩ := Hp.blk_cell B4.out 2 rfl); (obtain ⟨p6, -⟩ := Hp.blk_cell B5.out 0 rfl); (obtain ⟨p7, -⟩ := Hp.blk_cell B5.out 1 rfl); (obtain ⟨p8, -⟩ := Hp.blk_cell B5.out 2 rfl); (obtain ⟨p9, -⟩ := Hp.blk_cell B5.out 3 rfl); (obtain ⟨p10, -⟩ := Hp.blk_cell B5.out 4 rfl); (obtain ⟨p11, -⟩ := Hp.blk_cell B6.out 0 rfl); (obtain ⟨p12, -⟩ := Hp.blk_cell B6.out 1 rfl); (obtain ⟨p13, -⟩ := Hp.blk_cell B6.out 2 rfl); (obtain ⟨p14, -⟩ := Hp.blk_cell B6.out 3 rfl); (obtain ⟨p15, -⟩ := Hp.blk_cell B6.out 4 rfl)))
              | (go_at_call 11; (with_reducible refine (K4.out _).mono ?_; rintro e w7 ⟨rfl, hb7⟩; clear p0 p1 p2 p3 p4 p5 p6 p7 p8 p9 p10 p11 p12 p13 p14 p15; replace HB := Lib.hid (HB.out.trans (hb7.mono HB.out.size)); replace B3 := Lib.hid (hb7.block _ (Hp.blk_lt B3.out) |>.trans B3.out); replace B4 := Lib.hid (hb7.block _ (Hp.blk_lt B4.out) |>.trans B4.out); replace B5 := Lib.hid (hb7.block _ (Hp.blk_lt B5.out) |>.trans B5.out); replace B6 := Lib.hid (hb7.block _ (Hp.blk_lt B6.out) |>.trans B6.out); clear hb7; (obtain ⟨p0, -⟩ := Hp.blk_cell B3.out 0 rfl); (obtain ⟨p1, -⟩ := Hp.blk_cell B3.out 1 rfl); (obtain ⟨p2, -⟩ := Hp.blk_cell B3.out 2 rfl); (obtain ⟨p3, -⟩ := Hp.blk_cell B4.out 0 rfl); (obtain ⟨p4, -⟩ := Hp.blk_cell B4.out 1 rfl); (obtain ⟨p5, -⟩ := Hp.blk_cell B4.out 2 rfl); (obtain ⟨p6, -⟩ := Hp.blk_cell B5.out 0 rfl); (obtain ⟨p7, -⟩ := Hp.blk_cell B5.out 1 rfl); (obtain ⟨p8, -⟩ := Hp.blk_cell B5.out 2 rfl); (obtain ⟨p9, -⟩ := Hp.blk_cell B5.out 3 rfl); (obtain ⟨p10, -⟩ := Hp.blk_cell B5.out 4 rfl); (obtain ⟨p11, -⟩ := Hp.blk_cell B6.out 0 rfl); (obtain ⟨p12, -⟩ := Hp.blk_cell B6.out 1 rfl); (obtain ⟨p13, -⟩ := Hp.blk_cell B6.out 2 rfl); (obtain ⟨p14, -⟩ := Hp.blk_cell B6.out 3 rfl); (obtain ⟨p15, -⟩ := Hp.blk_cell B6.out 4 rfl)))
              | (go_at_call 10; (with_reducible refine (K5.out _).mono ?_; rintro e w7 ⟨rfl, hb7⟩; clear p0 p1 p2 p3 p4 p5 p6 p7 p8 p9 p10 p11 p12 p13 p14 p15; replace HB := Lib.hid (HB.out.trans (hb7.mono HB.out.size)); replace B3 := Lib.hid (hb7.block _ (Hp.blk_lt B3.out) |>.trans B3.out); replace B4 := Lib.hid (hb7.block _ (Hp.blk_lt B4.out) |>.trans B4.out); replace B5 := Lib.hid (hb7.block _ (Hp.blk_lt B5.out) |>.trans B5.out); replace B6 := Lib.hid (hb7.block _ (Hp.blk_lt B6.out) |>.trans B6.out); clear hb7; (obtain ⟨p0, -⟩ := Hp.blk_cell B3.out 0 rfl); (obtain ⟨p1, -⟩ := Hp.blk_cell B3.out 1 rfl); (obtain ⟨p2, -⟩ := Hp.blk_cell B3.out 2 rfl); (obtain ⟨p3, -⟩ := Hp.blk_cell B4.out 0 rfl); (obtain ⟨p4, -⟩ := Hp.blk_cell B4.out 1 rfl); (obtain ⟨p5, -⟩ := Hp.blk_cell B4.out 2 rfl); (obtain ⟨p6, -⟩ := Hp.blk_cell B5.out 0 rfl); (obtain ⟨p7, -⟩ := Hp.blk_cell B5.out 1 rfl); (obtain ⟨p8, -⟩ := Hp.blk_cell B5.out 2 rfl); (obtain ⟨p9, -⟩ := Hp.blk_cell B5.out 3 rfl); (obtain ⟨p10, -⟩ := Hp.blk_cell B5.out 4 rfl); (obtain ⟨p11, -⟩ := Hp.blk_cell B6.out 0 rfl); (obtain ⟨p12, -⟩ := Hp.blk_cell B6.out 1 rfl); (obtain ⟨p13, -⟩ := Hp.blk_cell B6.out 2 rfl); (obtain ⟨p14, -⟩ := Hp.blk_cell B6.out 3 rfl); (obtain ⟨p15, -⟩ := Hp.blk_cell B6.out 4 rfl))))
          all_goals
            go_ret
            exact ⟨rfl, HB.out⟩
        · go_wp2_with (first
              | (go_at_call 9; (with_reducible refine (K1.out _).mono ?_; rintro e w7 ⟨rfl, hb7⟩; clear p0 p1 p2 p3 p4 p5 p6 p7 p8 p9 p10 p11 p12 p13 p14 p15; replace HB := Lib.hid (HB.out.trans (hb7.mono HB.out.size)); replace B3 := Lib.hid (hb7.block _ (Hp.blk_lt B3.out) |>.trans B3.out); replace B4 := Lib.hid (hb7.block _ (Hp.blk_lt B4.out) |>.trans B4.out); replace B5 := Lib.hid (hb7.block _ (Hp.blk_lt B5.out) |>.trans B5.out); replace B6 := Lib.hid (hb7.block _ (Hp.blk_lt B6.out) |>.trans B6.out); clear hb7; (obtain ⟨p0, -⟩ := Hp.blk_cell B3.out 0 rfl); (obtain ⟨p1, -⟩ := Hp.blk_cell B3.out 1 rfl); (obtain ⟨p2, -⟩ := Hp.blk_cell B3.out 2 rfl); (obtain ⟨p3, -⟩ := Hp.blk_cell B4.out 0 rfl); (obtain ⟨p4, -⟩ := Hp.blk_cell B4.out 1 rfl); (obtain ⟨p5, -⟩ := Hp.blk_cell B4.out 2 rfl); (obtain ⟨p6, -⟩ := Hp.blk_cell B5.out 0 rfl); (obtain ⟨p7, -⟩ := Hp.blk_cell B5.out 1 rfl); (obtain ⟨p8, -⟩ := Hp.blk_cell B5.out 2 rfl); (obtain ⟨p9, -⟩ := Hp.blk_cell B5.out 3 rfl); (obtain ⟨p10, -⟩ := Hp.blk_cell B5.out 4 rfl); (obtain ⟨p11, -⟩ := Hp.blk_cell B6.out 0 rfl); (obtain ⟨p12, -⟩ := Hp.blk_cell B6.out 1 rfl); (obtain ⟨p13, -⟩ := Hp.blk_cell B6.out 2 rfl); (obtain ⟨p14, -⟩ := Hp.blk_cell B6.out 3 rfl); (obtain ⟨p15, -⟩ := Hp.blk_cell B6.out 4 rfl)))
              | (go_at_call 9; (with_reducible refine (K2.out _).mono ?_; rintro e w7 ⟨rfl, hb7⟩; clear p0 p1 p2 p3 p4 p5 p6 p7 p8 p9 p10 p11 p12 p13 p14 p15; replace HB := Lib.hid (HB.out.trans (hb7.mono HB.out.size)); replace B3 := Lib.hid (hb7.block _ (Hp.blk_lt B3.out) |>.trans B3.out); replace B4 := Lib.hid (hb7.block _ (Hp.blk_lt B4.out) |>.trans B4.out); replace B5 := Lib.hid (hb7.block _ (Hp.blk_lt B5.out) |>.trans B5.out); replace B6 := Lib.hid (hb7.block _ (Hp.blk_lt B6.out) |>.trans B6.out); clear hb7; (obtain ⟨p0, -⟩ := Hp.blk_cell B3.out 0 rfl); (obtain ⟨p1, -⟩ := Hp.blk_cell B3.out 1 rfl); (obtain ⟨p2, -⟩ := Hp.blk_cell B3.out 2 rfl); (obtain ⟨p3, -⟩ := Hp.blk_cell B4.out 0 rfl); (obtain ⟨p4, -⟩ := Hp.blk_cell B4.out 1 rfl); (obtain ⟨p5, -⟩ := Hp.blk_cell B4.out 2 rfl); (obtain ⟨p6, -⟩ := Hp.blk_cell B5.out 0 rfl); (obtain ⟨p7, -⟩ := Hp.blk_cell B5.out 1 rfl); (obtain ⟨p8, -⟩ := Hp.blk_cell B5.out 2 rfl); (obtain ⟨p9, -⟩ := Hp.blk_cell B5.out 3 rfl); (obtain ⟨p10, -⟩ := Hp.blk_cell B5.out 4 rfl); (obtain ⟨p11, -⟩ := Hp.blk_cell B6.out 0 rfl); (obtain ⟨p12, -⟩ := Hp.blk_cell B6.out 1 rfl); (obtain ⟨p13, -⟩ := Hp.blk_cell B6.out 2 rfl); (obtain ⟨p14, -⟩ := Hp.blk_cell B6.out 3 rfl); (obtain ⟨p15, -⟩ := Hp.blk_cell B6.out 4 rfl)))
              | (go_at_call 11; (with_reducible refine (K3.out _).mono ?_; rintro e w7 ⟨rfl, hb7⟩; clear p0 p1 p2 p3 p4 p5 p6 p7 p8 p9 p10 p11 p12 p13 p14 p15; replace HB := Lib.hid (HB.out.trans (hb7.mono HB.out.size)); replace B3 := Lib.hid (hb7.block _ (Hp.blk_lt B3.out) |>.trans B3.out); replace B4 := Lib.hid (hb7.block _ (Hp.blk_lt B4.out) |>.trans B4.out); replace B5 := Lib.hid (hb7.block _ (Hp.blk_lt B5.out) |>.trans B5.out); replace B6 := Lib.hid (hb7.block _ (Hp.blk_lt B6.out) |>.trans B6.out); clear hb7; (obtain ⟨p0, -⟩ := Hp.blk_cell B3.out 0 rfl); (obtain ⟨p1, -⟩ := Hp.blk_cell B3.out 1 rfl); (obtain ⟨p2, -⟩ := Hp.blk_cell B3.out 2 rfl); (obtain ⟨p3, -⟩ := Hp.blk_cell B4.out 0 rfl); (obtain ⟨p4, -⟩ := Hp.blk_cell B4.out 1 rfl); (obtain ⟨p5, -⟩ := Hp.blk_cell B4.out 2 rfl); (obtain ⟨p6, -⟩ := Hp.blk_cell B5.out 0 rfl); (obtain ⟨p7, -⟩ := Hp.blk_cell B5.out 1 rfl); (obtain ⟨p8, -⟩ := Hp.blk_cell B5.out 2 rfl); (obtain ⟨p9, -⟩ := Hp.blk_cell B5.out 3 rfl); (obtain ⟨p10, -⟩ := Hp.blk_cell B5.out 4 rfl); (obtain ⟨p11, -⟩ := Hp.blk_cell B6.out 0 rfl); (obtain ⟨p12, -⟩ := Hp.blk_cell B6.out 1 rfl); (obtain ⟨p13, -⟩ := Hp.blk_cell B6.out 2 rfl); (obtain ⟨p14, -⟩ := Hp.blk_cell B6.out 3 rfl); (obtain ⟨p15, -⟩ := Hp.blk_cell B6.out 4 rfl)))
              | (go_at_call 11; (with_reducible refine (K4.out _).mono ?_; rintro e w7 ⟨rfl, hb7⟩; clear p0 p1 p2 p3 p4 p5 p6 p7 p8 p9 p10 p11 p12 p13 p14 p15; replace HB := Lib.hid (HB.out.trans (hb7.mono HB.out.size)); replace B3 := Lib.hid (hb7.block _ (Hp.blk_lt B3.out) |>.trans B3.out); replace B4 := Lib.hid (hb7.block _ (Hp.blk_lt B4.out) |>.trans B4.out); replace B5 := Lib.hid (hb7.block _ (Hp.blk_lt B5.out) |>.trans B5.out); replace B6 := Lib.hid (hb7.block _ (Hp.blk_lt B6.out) |>.trans B6.out); clear hb7; (obtain ⟨p0, -⟩ := Hp.blk_cell B3.out 0 rfl); (obtain ⟨p1, -⟩ := Hp.blk_cell B3.out 1 rfl); (obtain ⟨p2, -⟩ := Hp.blk_cell B3.out 2 rfl); (obtain ⟨p3, -⟩ := Hp.blk_cell B4.out 0 rfl); (obtain ⟨p4, -⟩ := Hp.blk_cell B4.out 1 rfl); (obtain ⟨p5, -⟩ := Hp.blk_cell B4.out 2 rfl); (obtain ⟨p6, -⟩ := Hp.blk_cell B5.out 0 rfl); (obtain ⟨p7, -⟩ := Hp.blk_cell B5.out 1 rfl); (obtain ⟨p8, -⟩ := Hp.blk_cell B5.out 2 rfl); (obtain ⟨p9, -⟩ := Hp.blk_cell B5.out 3 rfl); (obtain ⟨p10, -⟩ := Hp.blk_cell B5.out 4 rfl); (obtain ⟨p11, -⟩ := Hp.blk_cell B6.out 0 rfl); (obtain ⟨p12, -⟩ := Hp.blk_cell B6.out 1 rfl); (obtain ⟨p13, -⟩ := Hp.blk_cell B6.out 2 rfl); (obtain ⟨p14, -⟩ := Hp.blk_cell B6.out 3 rfl); (obtain ⟨p15, -⟩ := Hp.blk_cell B6.out 4 rfl)))
              | (go_at_call 10; (with_reducible refine (K5.out _).mono ?_; rintro e w7 ⟨rfl, hb7⟩; clear p0 p1 p2 p3 p4 p5 p6 p7 p8 p9 p10 p11 p12 p13 p14 p15; replace HB := Lib.hid (HB.out.trans (hb7.mono HB.out.size)); replace B3 := Lib.hid (hb7.block _ (Hp.blk_lt B3.out) |>.trans B3.out); replace B4 := Lib.hid (hb7.block _ (Hp.blk_lt B4.out) |>.trans B4.out); replace B5 := Lib.hid (hb7.block _ (Hp.blk_lt B5.out) |>.trans B5.out); replace B6 := Lib.hid (hb7.block _ (Hp.blk_lt B6.out) |>.trans B6.out); clear hb7; (obtain ⟨p0, -⟩ := Hp.blk_cell B3.out 0 rfl); (obtain ⟨p1, -⟩ := Hp.blk_cell B3.out 1 rfl); (obtain ⟨p2, -⟩ := Hp.blk_cell B3.out 2 rfl); (obtain ⟨p3, -⟩ := Hp.blk_cell B4.out 0 rfl); (obtain ⟨p4, -⟩ := Hp.blk_cell B4.out 1 rfl); (obtain ⟨p5, -⟩ := Hp.blk_cell B4.out 2 rfl); (obtain ⟨p6, -⟩ := Hp.blk_cell B5.out 0 rfl); (obtain ⟨p7, -⟩ := Hp.blk_cell B5.out 1 rfl); (obtain ⟨p8, -⟩ := Hp.blk_cell B5.out 2 rfl); (obtain ⟨p9, -⟩ := Hp.blk_cell B5.out 3 rfl); (obtain ⟨p10, -⟩ := Hp.blk_cell B5.out 4 rfl); (obtain ⟨p11, -⟩ := Hp.blk_cell B6.out 0 rfl); (obtain ⟨p12, -⟩ := Hp.blk_cell B6.out 1 rfl); (obtain ⟨p13, -⟩ := Hp.blk_cell B6.out 2 rfl); (obtain ⟨p14, -⟩ := Hp.blk_cell B6.out 3 rfl); (obtain ⟨p15, -⟩ := Hp.blk_cell B6.out 4 rfl))))
          all_goals
            go_ret
            refine ⟨?_, HB.out⟩
            have q := Q2.out (by simp) (by simp)
            clear K1 K2 K3 K4 K5 Q1 Q2 HB B3 B4 B5 B6 p0 p1 p2 p3 p4 p5 p6 p7 p8 p9 p10 p11 p12 p13 p14 p15
            simp only [Value.bool.injEq, Ending.returned.injEq, beq_iff_eq, Bool.not_eq_true', beq_eq_false_iff_ne, ne_eq, Array.getD_eq_getD_getElem?]
            go_simp
            try simp only [Value.bool.injEq, Ending.returned.injEq, beq_iff_eq, Bool.not_eq_true', beq_eq_false_iff_ne, ne_eq]
            try omega
theorem unlike_law (a0 a1 a2 a3 a4 a5 a6 a7 a8 a9 a10 a11 a12 a13 a14 a15 : Int) (w : World) :
    Calls Try.prog 3 #[.agg #[.int .i64 a0, .int .i64 a1, .int .i64 a2, .int .i64 a3, .int .i64 a4, .int .i64 a5, .int .i64 a6, .int .i64 a7, .int .i64 a8, .int .i64 a9, .int .i64 a10, .int .i64 a11, .int .i64 a12, .int .i64 a13, .int .i64 a14, .int .i64 a15]] w fun e w' => e = .returned (.bool true) ∧ Below w.heap.size w w' :=
  unlike a0 a1 a2 a3 a4 a5 a6 a7 a8 a9 a10 a11 a12 a13 a14 a15 _ _ _ _ _ _ _ _ w (fun w => header_EncodeHead.calls 1 a0 a1 a2 (if headP a0 a1 a2 then headW a0 a1 a2 else 0) (if headP a0 a1 a2 then 0 else 4) w (by rw [encHead_eq 0]; split <;> rfl)) (fun w => header_EncodeHead.calls 1 a3 a4 a5 (if headP a3 a4 a5 then headW a3 a4 a5 else 0) (if headP a3 a4 a5 then 0 else 4) w (by rw [encHead_eq 0]; split <;> rfl)) (fun w => header_EncodeEntry.calls 7 a6 a7 a8 a9 a10 (if entryP a6 a7 a8 a9 a10 then entryW a6 a7 a8 a9 a10 else 0) (if entryP a6 a7 a8 a9 a10 then 0 else 4) w (by rw [encEntry_eq 0]; split <;> rfl)) (fun w => header_EncodeEntry.calls 7 a11 a12 a13 a14 a15 (if entryP a11 a12 a13 a14 a15 then entryW a11 a12 a13 a14 a15 else 0) (if entryP a11 a12 a13 a14 a15 then 0 else 4) w (by rw [encEntry_eq 0]; split <;> rfl)) (fun w => windrowlaw02_headed.calls 7 true w (headed_true 0))
    (by
    intro h h'
    by_cases g : headP a0 a1 a2
    · by_cases g' : headP a3 a4 a5
      · rw [if_pos g, if_pos g']
        have e := head_inj g g'
        rw [Bool.eq_iff_iff] at e
        simpa only [beq_iff_eq, Bool.and_eq_true] using e
      · rw [if_neg g'] at h'
        omega
    · rw [if_neg g] at h
      omega)
    (by
    intro h h'
    by_cases g : entryP a6 a7 a8 a9 a10
    · by_cases g' : entryP a11 a12 a13 a14 a15
      · rw [if_pos g, if_pos g']
        have e := entry_inj g g'
        rw [Bool.eq_iff_iff] at e
        simpa only [beq_iff_eq, Bool.and_eq_true] using e
      · rw [if_neg g'] at h'
        omega
    · rw [if_neg g] at h
      omega)
end Go.Proofs.Ytjoejpkompaplaa.Hu

/- The ring's machines: a push as a block; what makes one, what it tells, a step of it. -/
import Derived.Test.YtdcikbhfoplkmaaSys
import Derived.Test.YtdcikbhfoplkmaaPHx5
import Derived.Deep.Cut
namespace Go.Proofs.Ytdcikbhfoplkmaa.Ar
open Go Go.RowKit Go.Proofs.Ytdcikbhfoplkmaa.Hp Go.Proofs.Ytdcikbhfoplkmaa.PH
set_option linter.unusedVariables false
set_option linter.unusedSimpArgs false

structure PS where
  P : Int
  T : Int
  R : Int
  t : Int
  v : Int
  at_ : Int
  head : Int
  tail : Int
  full : Bool
def PS.cells (s : PS) : Array Value := #[.int .i64 s.P, .int .i64 s.T, .int .i64 s.R, .int .i64 s.t, .int .u64 s.v, .int .i64 s.at_, .int .u64 s.head, .int .u64 s.tail, .bool s.full]
def IsPush (w : World) (m : Nat) (s : PS) : Prop := w.heap[m]? = some (.cells s.cells 97 (0, 0))
theorem IsPush.below {w w' : World} {m : Nat} {s : PS} (h : IsPush w m s) (hb : Below w.heap.size w w') : IsPush w' m s := (hb.block m (blk_lt h)).trans h
theorem blk_below {w w' : World} {k : Nat} {o : Obj} (h : w.heap[k]? = some o) (hb : Below w.heap.size w w') : w'.heap[k]? = some o := (hb.block k (blk_lt h)).trans h

theorem sys_cel {B a c : Nat} {w : World} {s : AS} {ps : List (Nat × Int × Bool)} (h : Sys B w a c s ps) : w.heap[c]? = some (.cells (s.cells.map (Value.int .u64)).toArray 24 (0, 0)) := by
  obtain ⟨lv, hA⟩ := h.ar
  exact hA.cel
theorem touch_back {c m : Nat} {w w' : World} (hF : Fr (fun k => k = m ∨ Touch c w k) w w') (k : Nat) (hk : k < w.heap.size) (ht : Touch c w' k) : k = m ∨ Touch c w k := by
  by_cases h : k = m ∨ Touch c w k
  · exact h
  · have e := hF.block k hk h
    rcases ht with rfl | ⟨cs, t, f, h1, h2⟩
    · exact .inr (.inl rfl)
    · rw [e] at h1
      exact .inr (.inr ⟨cs, t, f, h1, h2⟩)
set_option maxHeartbeats 1000000 in
theorem newPush_yes (w : World) (P T R t v : Int) (h : ring_right.f P T R t = some true) (hv : v ≠ 0) :
    Calls Try.prog 12 #[.agg #[.int .i64 P, .int .i64 T, .int .i64 R], .int .i64 t, .int .u64 v] w fun e w' => ∃ m, e = .returned (.tuple #[.pointer (some ⟨m, 0, none⟩), .int .i64 0]) ∧ w.heap.size ≤ m ∧ IsPush w' m ⟨P, T, R, t, v, 0, 0, 0, false⟩ ∧ Below w.heap.size w w' := by
  have hv2 : (v == 0) = false := by simp [hv]
  have hm := ring_right.calls P T R t true (w.alloc (.cells #[.int .i64 P, .int .i64 T, .int .i64 R] 39)) h
  have KB := Lib.hid (Hp.blk_new w (.cells #[.int .i64 P, .int .i64 T, .int .i64 R] 39))
  have HB := Lib.hid ((Below.refl w.heap.size w).alloc (Nat.le_refl _) (.cells #[.int .i64 P, .int .i64 T, .int .i64 R] 39))
  clear h hv
  go_enter Try.func12, Try.ntmps12
  go_wp2_with (first | (go_at_call 42; (refine hm.mono ?_; clear hm; rintro e w2 ⟨rfl, hb⟩; replace KB := Lib.hid (blk_below KB.out hb); replace HB := Lib.hid (HB.out.trans (hb.mono HB.out.size)); clear hb; (obtain ⟨c0, -⟩ := Hp.blk_cell KB.out 0 rfl); (obtain ⟨c1, -⟩ := Hp.blk_cell KB.out 1 rfl); (obtain ⟨c2, -⟩ := Hp.blk_cell KB.out 2 rfl))))
  go_ret2
  exact ⟨_, rfl, HB.out.size, Hp.blk_new w2 _, HB.out.alloc HB.out.size _⟩
set_option maxHeartbeats 1000000 in
theorem newPush_no (w : World) (P T R t v : Int) (b : Bool) (h : ring_right.f P T R t = some b) (hv : b = false ∨ v = 0) :
    Calls Try.prog 12 #[.agg #[.int .i64 P, .int .i64 T, .int .i64 R], .int .i64 t, .int .u64 v] w fun e w' => e = .returned (.tuple #[.pointer none, .int .i64 1]) ∧ Below w.heap.size w w' := by
  have hm := ring_right.calls P T R t b (w.alloc (.cells #[.int .i64 P, .int .i64 T, .int .i64 R] 39)) h
  have HB := Lib.hid ((Below.refl w.heap.size w).alloc (Nat.le_refl _) (.cells #[.int .i64 P, .int .i64 T, .int .i64 R] 39))
  clear h
  cases b
  · clear hv
    go_enter Try.func12, Try.ntmps12
    go_wp2_with (first | (go_at_call 42; (refine hm.mono ?_; clear hm; rintro e w2 ⟨rfl, hb⟩; replace HB := Lib.hid (HB.out.trans (hb.mono HB.out.size)); clear hb)))
    go_ret2
    exact ⟨rfl, HB.out⟩
  · obtain rfl : v = 0 := by simpa using hv
    clear hv
    go_enter Try.func12, Try.ntmps12
    go_wp2_with (first | (go_at_call 42; (refine hm.mono ?_; clear hm; rintro e w2 ⟨rfl, hb⟩; replace HB := Lib.hid (HB.out.trans (hb.mono HB.out.size)); clear hb)))
    go_ret2
    exact ⟨rfl, HB.out⟩
theorem push_full (w : World) (m : Nat) (s : PS) (h : IsPush w m s) : Calls Try.prog 17 #[.pointer (some ⟨m, 0, none⟩)] w fun e w' => e = .returned (.bool s.full) ∧ w' = w := by
  obtain ⟨c8, -⟩ := Hp.blk_cell h 8 (v := .bool s.full) rfl
  clear h
  go_enter Try.func17, Try.ntmps17
  go_wp2
  go_ret
  exact ⟨rfl, rfl⟩
theorem push_over (w : World) (m : Nat) (s : PS) (h : IsPush w m s) : Calls Try.prog 25 #[.pointer (some ⟨m, 0, none⟩)] w fun e w' => e = .returned (.bool (s.at_ == 4)) ∧ w' = w := by
  obtain ⟨c5, -⟩ := Hp.blk_cell h 5 (v := .int .i64 s.at_) rfl
  clear h
  go_enter Try.func25, Try.ntmps25
  go_wp2
  go_ret
  exact ⟨rfl, rfl⟩
set_option maxRecDepth 100000 in
theorem push_step_over (w : World) (m : Nat) (s : PS) (p : Value) (h : IsPush w m s) (h4 : s.at_ = 4) : Calls Try.prog 24 #[.pointer (some ⟨m, 0, none⟩), p] w fun e w' => e = .returned (.bool true) ∧ w' = w := by
  obtain ⟨c5, -⟩ := Hp.blk_cell h 5 (v := .int .i64 s.at_) rfl
  rw [h4] at c5
  clear h h4
  go_enter Try.func24, Try.ntmps24
  go_wp2
  go_ret
  exact ⟨rfl, rfl⟩
set_option maxRecDepth 100000 in
theorem push_step_shut {B : Nat} {w : World} {a c p : Nat} {s : AS} {who : Int} {ps : List (Nat × Int × Bool)} (hs : Sys B w a c s ps) (i : Nat) (hi : ps[i]? = some (p, who, false)) (m : Nat) (x : PS) (h : IsPush w m x) (h4 : x.at_ ≠ 4) :
    Calls Try.prog 24 #[.pointer (some ⟨m, 0, none⟩), .pointer (some ⟨p, 0, none⟩)] w fun e w' => e = .returned (.bool false) ∧ w' = w := by
  obtain ⟨c5, -⟩ := Hp.blk_cell h 5 (v := .int .i64 x.at_) rfl
  have h5 : (x.at_ == 4) = false := by simp [h4]
  have hm := hs.open_ i hi
  clear h h4
  go_enter Try.func24, Try.ntmps24
  go_wp2_with (first | (go_at_call 50; (refine hm.mono ?_; clear hm; rintro e w2 ⟨rfl, rfl⟩)))
  go_ret
  exact ⟨rfl, rfl⟩

set_option maxHeartbeats 2000000 in
set_option maxRecDepth 100000 in
theorem push_step0 {B : Nat} {w : World} {a c p : Nat} {s : AS} {who : Int} {ps : List (Nat × Int × Bool)} {P T R t v hd tl : Int} {fl : Bool} {q : Int} (hs : Sys B w a c s ps) (i : Nat) (hi : ps[i]? = some (p, who, true)) (m : Nat) (h : IsPush w m ⟨P, T, R, t, v, 0, hd, tl, fl⟩) (hB : B ≤ m) (hq : layout_Plan_Tail.f P T R t = some q) (hl : s.log.length ≤ 1000000) :
    Calls Try.prog 24 #[.pointer (some ⟨m, 0, none⟩), .pointer (some ⟨p, 0, none⟩)] w fun e w' => e = .returned (.bool false) ∧ IsPush w' m ⟨P, T, R, t, v, 1, hd, (s.acc true who 1 q 0 0).2, fl⟩ ∧ Sys B w' a c (s.acc true who 1 q 0 0).1 (ps.set i (p, who, false)) ∧ Below B w w' ∧ Fr (fun k => k = m ∨ Touch c w k) w w' := by
  have h' : w.heap[m]? = some (.cells #[.int .i64 P, .int .i64 T, .int .i64 R, .int .i64 t, .int .u64 v, .int .i64 0, .int .u64 hd, .int .u64 tl, .bool fl] 97 (0, 0)) := h
  have HO := Lib.hid (hs.open_ i hi)
  have HS := Lib.hid hs
  have HQ := Lib.hid hq
  have HI := Lib.hid hi
  have HL := Lib.hid hl
  obtain ⟨c5, -⟩ := Hp.blk_cell h' 5 rfl
  have HP := Lib.hid h'
  have HB := Lib.hid (Below.refl B w)
  have HF := Lib.hid (Fr.refl (fun k => k = m ∨ Touch c w k) w)
  have HBm := Lib.hid hB
  clear hs hi h h' hq hl hB
  go_enter Try.func24, Try.ntmps24
  go_upto_region 7 with (first | (go_at_call 50; (refine HO.out.mono ?_; clear HO; rintro e w2 ⟨rfl, rfl⟩)))
  clear c5
  replace HS := Lib.hid (HS.out.still ((Fr.refl _ _).drew))
  replace HB := Lib.hid HB.out.drew
  replace HF := Lib.hid HF.out.drew
  have HP1 : Hid (w2.drew.heap[m]? = some (.cells #[.int .i64 P, .int .i64 T, .int .i64 R, .int .i64 t, .int .u64 v, .int .i64 0, .int .u64 hd, .int .u64 tl, .bool fl] 97 (0, 0))) := Lib.hid HP.out
  clear HP
  refine Rg.Upto.start (fun w' => ∃ y, w'.heap[m]? = some (.cells #[.int .i64 P, .int .i64 T, .int .i64 R, .int .i64 t, .int .u64 v, .int .i64 0, .int .u64 hd, .int .u64 y, .bool fl] 97 (0, 0))) 1000 (by kernel_rfl) ⟨_, HP1.out⟩ (fun HS0 => ?_)
  have HSC := HS0
  clear HS0
  refine Rg.Upto.takeA (i := 0) (v := ?_) rfl (by kernel_rfl) (by kernel_rfl) (by kernel_rfl) (of_decide_eq_true (by kernel_rfl)) (fun _ _ _ h => h) (by rfl) (fun w5 hS5 => ?_) HSC ?_
  rotate_left
  · obtain ⟨y, hS5⟩ := hS5
    clear hS5
    go_simp
    try rfl
  try simp only [Act.put, List.setIfInBounds_toArray, List.set_cons_zero, List.set_cons_succ]
  refine Rg.Upto.takeA (i := 1) (v := ?_) rfl (by kernel_rfl) (by kernel_rfl) (by kernel_rfl) (of_decide_eq_true (by kernel_rfl)) (fun _ _ _ h => h) (by rfl) (fun w5 hS5 => ?_) HSC ?_
  rotate_left
  · obtain ⟨y, hS5⟩ := hS5
    clear hS5
    go_simp
    try rfl
  try simp only [Act.put, List.setIfInBounds_toArray, List.set_cons_zero, List.set_cons_succ]
  refine Rg.Upto.takeA (i := 2) (v := ?_) rfl (by kernel_rfl) (by kernel_rfl) (by kernel_rfl) (of_decide_eq_true (by kernel_rfl)) (fun _ _ _ h => h) (by rfl) (fun w5 hS5 => ?_) HSC ?_
  rotate_left
  · obtain ⟨y, hS5⟩ := hS5
    clear hS5
    go_simp
    try rfl
  try simp only [Act.put, List.setIfInBounds_toArray, List.set_cons_zero, List.set_cons_succ]
  refine Rg.Upto.takeA (i := 3) (v := ?_) rfl (by kernel_rfl) (by kernel_rfl) (by kernel_rfl) (of_decide_eq_true (by kernel_rfl)) (fun _ _ _ h => h) (by rfl) (fun w5 hS5 => ?_) HSC ?_
  rotate_left
  · obtain ⟨y, hS5⟩ := hS5
    clear hS5
    go_simp
    try rfl
  try simp only [Act.put, List.setIfInBounds_toArray, List.set_cons_zero, List.set_cons_succ]
  refine Rg.Upto.takeA (i := 4) (v := ?_) rfl (by kernel_rfl) (by kernel_rfl) (by kernel_rfl) (of_decide_eq_true (by kernel_rfl)) (fun _ _ _ h => h) (by rfl) (fun w5 hS5 => ?_) HSC ?_
  rotate_left
  · obtain ⟨y, hS5⟩ := hS5
    clear hS5
    go_simp
    try rfl
  try simp only [Act.put, List.setIfInBounds_toArray, List.set_cons_zero, List.set_cons_succ]
  refine Rg.Upto.takeA (i := 5) (v := ?_) rfl (by kernel_rfl) (by kernel_rfl) (by kernel_rfl) (of_decide_eq_true (by kernel_rfl)) (fun _ _ _ h => h) (by rfl) (fun w5 hS5 => ?_) HSC ?_
  rotate_left
  · obtain ⟨y, hS5⟩ := hS5
    have c0 := (Hp.blk_cell hS5 0 rfl).1
    have c1 := (Hp.blk_cell hS5 1 rfl).1
    have c2 := (Hp.blk_cell hS5 2 rfl).1
    clear hS5
    go_simp
    try rfl
  try simp only [Act.put, List.setIfInBounds_toArray, List.set_cons_zero, List.set_cons_succ]
  refine Rg.Upto.takeA (i := 6) (v := ?_) rfl (by kernel_rfl) (by kernel_rfl) (by kernel_rfl) (of_decide_eq_true (by kernel_rfl)) (fun _ _ _ h => h) (by rfl) (fun w5 hS5 => ?_) HSC ?_
  rotate_left
  · obtain ⟨y, hS5⟩ := hS5
    clear hS5
    go_simp
    try rfl
  try simp only [Act.put, List.setIfInBounds_toArray, List.set_cons_zero, List.set_cons_succ]
  refine Rg.Upto.takeA (i := 7) (v := ?_) rfl (by kernel_rfl) (by kernel_rfl) (by kernel_rfl) (of_decide_eq_true (by kernel_rfl)) (fun _ _ _ h => h) (by rfl) (fun w5 hS5 => ?_) HSC ?_
  rotate_left
  · obtain ⟨y, hS5⟩ := hS5
    clear hS5
    go_simp
    try rfl
  try simp only [Act.put, List.setIfInBounds_toArray, List.set_cons_zero, List.set_cons_succ]
  refine Rg.Upto.takeA (i := 8) (v := ?_) rfl (by kernel_rfl) (by kernel_rfl) (by kernel_rfl) (of_decide_eq_true (by kernel_rfl)) (fun _ _ _ h => h) (by rfl) (fun w5 hS5 => ?_) HSC ?_
  rotate_left
  · obtain ⟨y, hS5⟩ := hS5
    clear hS5
    go_simp
    try rfl
  try simp only [Act.put, List.setIfInBounds_toArray, List.set_cons_zero, List.set_cons_succ]
  refine Rg.Upto.takeA (i := 9) (v := ?_) rfl (by kernel_rfl) (by kernel_rfl) (by kernel_rfl) (of_decide_eq_true (by kernel_rfl)) (fun _ _ _ h => h) (by rfl) (fun w5 hS5 => ?_) HSC ?_
  rotate_left
  · obtain ⟨y, hS5⟩ := hS5
    have c3 := (Hp.blk_cell hS5 3 rfl).1
    clear hS5
    go_simp
    try rfl
  try simp only [Act.put, List.setIfInBounds_toArray, List.set_cons_zero, List.set_cons_succ]
  refine Rg.Upto.one (i := 10) rfl (by kernel_rfl) (by rfl) (fun KK hK => ?_)
  go_simp
  refine (layout_Plan_Tail.calls P T R t q _ HQ.out).mono ?_
  rintro e w3 ⟨rfl, hb⟩
  have HP := Lib.hid (blk_below HP1.out hb)
  clear HP1 HSC
  replace HB := Lib.hid (HB.out.trans (hb.mono HS.out.base.1))
  replace HS := Lib.hid (HS.out.below hb)
  replace HF := Lib.hid (HF.out.below hb)
  refine hK.out _ _ ⟨_, HP.out⟩ ?_
  clear hK KK hb
  try simp only [Act.put, List.setIfInBounds_toArray, List.set_cons_zero, List.set_cons_succ]
  obtain ⟨sn, hsn⟩ : ∃ sn, sn = (s.acc true who 1 q 0 0).2 := ⟨_, rfl⟩
  have HSN := Lib.hid hsn
  clear hsn
  refine Rg.Upto.one (i := 11) rfl (by kernel_rfl) (by rfl) (fun KK hK => ?_)
  go_simp
  have hm := HS.out.load i q HI.out HL.out
  rw [← HSN.out] at hm
  refine hm.mono ?_
  clear hm
  rintro e w4 ⟨rfl, hD⟩
  have HP1 := Lib.hid (hD.fr.blk HP.out (not_touch HP.out (blk_ne HP.out (sys_cel HS.out) (by decide)) (by decide)))
  have hF2 := HF.out.then hD.fr (touch_back HF.out)
  replace HB := Lib.hid (HB.out.trans hD.bel)
  clear HF HS HP
  have HF := Lib.hid hF2
  have HS := Lib.hid hD.sys
  refine hK.out _ _ ⟨_, HP1.out⟩ ?_
  clear hK KK hD hF2
  have HSC : ∃ y, w4.heap[m]? = some (.cells #[.int .i64 P, .int .i64 T, .int .i64 R, .int .i64 t, .int .u64 v, .int .i64 0, .int .u64 hd, .int .u64 y, .bool fl] 97 (0, 0)) := ⟨_, HP1.out⟩
  try simp only [Act.put, List.setIfInBounds_toArray, List.set_cons_zero, List.set_cons_succ]
  refine Rg.Upto.takeA (i := 12) (v := ?_) rfl (by kernel_rfl) (by kernel_rfl) (by kernel_rfl) (of_decide_eq_true (by kernel_rfl)) (fun _ _ _ h => h) (by rfl) (fun w5 hS5 => ?_) HSC ?_
  rotate_left
  · obtain ⟨y, hS5⟩ := hS5
    clear hS5
    go_simp
    try rfl
  try simp only [Act.put, List.setIfInBounds_toArray, List.set_cons_zero, List.set_cons_succ]
  refine Rg.Upto.takeA (i := 13) (v := ?_) rfl (by kernel_rfl) (by kernel_rfl) (by kernel_rfl) (of_decide_eq_true (by kernel_rfl)) (fun _ _ _ h => h) (by rfl) (fun w5 hS5 => ?_) HSC ?_
  rotate_left
  · obtain ⟨y, hS5⟩ := hS5
    clear hS5
    go_simp
    try rfl
  try simp only [Act.put, List.setIfInBounds_toArray, List.set_cons_zero, List.set_cons_succ]
  refine Rg.Upto.one (i := 14) rfl (by kernel_rfl) (by rfl) (fun KK hK => ?_)
  obtain ⟨c7, d7⟩ := Hp.blk_cell HP1.out 7 rfl
  go_simp
  have HP2 : (w4.setCell ⟨m, 7, none⟩ (.int .u64 sn)).heap[m]? = some (.cells #[.int .i64 P, .int .i64 T, .int .i64 R, .int .i64 t, .int .u64 v, .int .i64 0, .int .u64 hd, .int .u64 sn, .bool fl] 97 (0, 0)) := Hp.blk_set HP1.out 7 _
  refine hK.out _ _ ⟨_, HP2⟩ ?_
  clear hK KK c7 d7
  try simp only [Act.put, List.setIfInBounds_toArray, List.set_cons_zero, List.set_cons_succ]
  refine Rg.Upto.done (by kernel_rfl) ?_
  have hnt := not_touch HP1.out (blk_ne HP1.out (sys_cel HS.out) (by decide)) (by decide)
  replace HS := Lib.hid (HS.out.fr ((Fr.refl (fun k => k = m) w4).setCell ⟨m, 7, none⟩ (.int .u64 sn) (.inl rfl)) (fun k _ e => by subst e; exact hnt))
  replace HF := Lib.hid (HF.out.setCell ⟨m, 7, none⟩ (.int .u64 sn) (.inl (.inl rfl)))
  replace HB := Lib.hid (HB.out.setCell (p := ⟨m, 7, none⟩) HBm.out (.int .u64 sn))
  clear HSC hnt HP1
  generalize w4.setCell ⟨m, 7, none⟩ (.int .u64 sn) = w6 at HP2 HS HF HB ⊢
  obtain ⟨c5, d5⟩ := Hp.blk_cell HP2 5 rfl
  have HP3 := Lib.hid HP2
  clear HP2
  go_wp2_with (fail)
  go_ret
  have hnt := not_touch HP3.out (blk_ne HP3.out (sys_cel HS.out) (by decide)) (by decide)
  rw [← HSN.out]
  exact ⟨rfl, Hp.blk_set HP3.out 5 _, HS.out.fr ((Fr.refl (fun k => k = m) w6).setCell ⟨m, 5, none⟩ (.int .i64 1) (.inl rfl)) (fun k _ e => by subst e; exact hnt), HB.out.setCell (p := ⟨m, 5, none⟩) HBm.out _, HF.out.setCell ⟨m, 5, none⟩ _ (.inl (.inl rfl))⟩

set_option maxHeartbeats 2000000 in
set_option maxRecDepth 100000 in
theorem push_step1full {B : Nat} {w : World} {a c p : Nat} {s : AS} {who : Int} {ps : List (Nat × Int × Bool)} {P T R t v hd tl : Int} {fl : Bool} {q : Int} (hs : Sys B w a c s ps) (i : Nat) (hi : ps[i]? = some (p, who, true)) (m : Nat) (h : IsPush w m ⟨P, T, R, t, v, 1, hd, tl, fl⟩) (hB : B ≤ m) (hq : layout_Plan_Head.f P T R t = some q) (hl : s.log.length ≤ 1000000) (hz : IntKind.u64.wrap R ≤ IntKind.u64.wrap (tl - (s.acc true who 1 q 0 0).2)) :
    Calls Try.prog 24 #[.pointer (some ⟨m, 0, none⟩), .pointer (some ⟨p, 0, none⟩)] w fun e w' => e = .returned (.bool true) ∧ IsPush w' m ⟨P, T, R, t, v, 4, (s.acc true who 1 q 0 0).2, tl, true⟩ ∧ Sys B w' a c (s.acc true who 1 q 0 0).1 (ps.set i (p, who, false)) ∧ Below B w w' ∧ Fr (fun k => k = m ∨ Touch c w k) w w' := by
  have h' : w.heap[m]? = some (.cells #[.int .i64 P, .int .i64 T, .int .i64 R, .int .i64 t, .int .u64 v, .int .i64 1, .int .u64 hd, .int .u64 tl, .bool fl] 97 (0, 0)) := h
  have HO := Lib.hid (hs.open_ i hi)
  have HS := Lib.hid hs
  have HQ := Lib.hid hq
  have HI := Lib.hid hi
  have HL := Lib.hid hl
  obtain ⟨c5, -⟩ := Hp.blk_cell h' 5 rfl
  have HP := Lib.hid h'
  have HB := Lib.hid (Below.refl B w)
  have HF := Lib.hid (Fr.refl (fun k => k = m ∨ Touch c w k) w)
  have HBm := Lib.hid hB
  have HZ := Lib.hid hz
  clear hs hi h h' hq hl hB hz
  go_enter Try.func24, Try.ntmps24
  go_upto_region 9 with (first | (go_at_call 50; (refine HO.out.mono ?_; clear HO; rintro e w2 ⟨rfl, rfl⟩)))
  clear c5
  replace HS := Lib.hid (HS.out.still ((Fr.refl _ _).drew))
  replace HB := Lib.hid HB.out.drew
  replace HF := Lib.hid HF.out.drew
  have HP1 : Hid (w2.drew.heap[m]? = some (.cells #[.int .i64 P, .int .i64 T, .int .i64 R, .int .i64 t, .int .u64 v, .int .i64 1, .int .u64 hd, .int .u64 tl, .bool fl] 97 (0, 0))) := Lib.hid HP.out
  clear HP
  refine Rg.Upto.start (fun w' => ∃ y, w'.heap[m]? = some (.cells #[.int .i64 P, .int .i64 T, .int .i64 R, .int .i64 t, .int .u64 v, .int .i64 1, .int .u64 y, .int .u64 tl, .bool fl] 97 (0, 0))) 1000 (by kernel_rfl) ⟨_, HP1.out⟩ (fun HS0 => ?_)
  have HSC := HS0
  clear HS0
  refine Rg.Upto.takeA (i := 0) (v := ?_) rfl (by kernel_rfl) (by kernel_rfl) (by kernel_rfl) (of_decide_eq_true (by kernel_rfl)) (fun _ _ _ h => h) (by rfl) (fun w5 hS5 => ?_) HSC ?_
  rotate_left
  · obtain ⟨y, hS5⟩ := hS5
    clear hS5
    go_simp
    try rfl
  try simp only [Act.put, List.setIfInBounds_toArray, List.set_cons_zero, List.set_cons_succ]
  refine Rg.Upto.takeA (i := 1) (v := ?_) rfl (by kernel_rfl) (by kernel_rfl) (by kernel_rfl) (of_decide_eq_true (by kernel_rfl)) (fun _ _ _ h => h) (by rfl) (fun w5 hS5 => ?_) HSC ?_
  rotate_left
  · obtain ⟨y, hS5⟩ := hS5
    clear hS5
    go_simp
    try rfl
  try simp only [Act.put, List.setIfInBounds_toArray, List.set_cons_zero, List.set_cons_succ]
  refine Rg.Upto.takeA (i := 2) (v := ?_) rfl (by kernel_rfl) (by kernel_rfl) (by kernel_rfl) (of_decide_eq_true (by kernel_rfl)) (fun _ _ _ h => h) (by rfl) (fun w5 hS5 => ?_) HSC ?_
  rotate_left
  · obtain ⟨y, hS5⟩ := hS5
    clear hS5
    go_simp
    try rfl
  try simp only [Act.put, List.setIfInBounds_toArray, List.set_cons_zero, List.set_cons_succ]
  refine Rg.Upto.takeA (i := 3) (v := ?_) rfl (by kernel_rfl) (by kernel_rfl) (by kernel_rfl) (of_decide_eq_true (by kernel_rfl)) (fun _ _ _ h => h) (by rfl) (fun w5 hS5 => ?_) HSC ?_
  rotate_left
  · obtain ⟨y, hS5⟩ := hS5
    clear hS5
    go_simp
    try rfl
  try simp only [Act.put, List.setIfInBounds_toArray, List.set_cons_zero, List.set_cons_succ]
  refine Rg.Upto.takeA (i := 4) (v := ?_) rfl (by kernel_rfl) (by kernel_rfl) (by kernel_rfl) (of_decide_eq_true (by kernel_rfl)) (fun _ _ _ h => h) (by rfl) (fun w5 hS5 => ?_) HSC ?_
  rotate_left
  · obtain ⟨y, hS5⟩ := hS5
    clear hS5
    go_simp
    try rfl
  try simp only [Act.put, List.setIfInBounds_toArray, List.set_cons_zero, List.set_cons_succ]
  refine Rg.Upto.takeA (i := 5) (v := ?_) rfl (by kernel_rfl) (by kernel_rfl) (by kernel_rfl) (of_decide_eq_true (by kernel_rfl)) (fun _ _ _ h => h) (by rfl) (fun w5 hS5 => ?_) HSC ?_
  rotate_left
  · obtain ⟨y, hS5⟩ := hS5
    have c0 := (Hp.blk_cell hS5 0 rfl).1
    have c1 := (Hp.blk_cell hS5 1 rfl).1
    have c2 := (Hp.blk_cell hS5 2 rfl).1
    clear hS5
    go_simp
    try rfl
  try simp only [Act.put, List.setIfInBounds_toArray, List.set_cons_zero, List.set_cons_succ]
  refine Rg.Upto.takeA (i := 6) (v := ?_) rfl (by kernel_rfl) (by kernel_rfl) (by kernel_rfl) (of_decide_eq_true (by kernel_rfl)) (fun _ _ _ h => h) (by rfl) (fun w5 hS5 => ?_) HSC ?_
  rotate_left
  · obtain ⟨y, hS5⟩ := hS5
    clear hS5
    go_simp
    try rfl
  try simp only [Act.put, List.setIfInBounds_toArray, List.set_cons_zero, List.set_cons_succ]
  refine Rg.Upto.takeA (i := 7) (v := ?_) rfl (by kernel_rfl) (by kernel_rfl) (by kernel_rfl) (of_decide_eq_true (by kernel_rfl)) (fun _ _ _ h => h) (by rfl) (fun w5 hS5 => ?_) HSC ?_
  rotate_left
  · obtain ⟨y, hS5⟩ := hS5
    clear hS5
    go_simp
    try rfl
  try simp only [Act.put, List.setIfInBounds_toArray, List.set_cons_zero, List.set_cons_succ]
  refine Rg.Upto.takeA (i := 8) (v := ?_) rfl (by kernel_rfl) (by kernel_rfl) (by kernel_rfl) (of_decide_eq_true (by kernel_rfl)) (fun _ _ _ h => h) (by rfl) (fun w5 hS5 => ?_) HSC ?_
  rotate_left
  · obtain ⟨y, hS5⟩ := hS5
    clear hS5
    go_simp
    try rfl
  try simp only [Act.put, List.setIfInBounds_toArray, List.set_cons_zero, List.set_cons_succ]
  refine Rg.Upto.takeA (i := 9) (v := ?_) rfl (by kernel_rfl) (by kernel_rfl) (by kernel_rfl) (of_decide_eq_true (by kernel_rfl)) (fun _ _ _ h => h) (by rfl) (fun w5 hS5 => ?_) HSC ?_
  rotate_left
  · obtain ⟨y, hS5⟩ := hS5
    have c3 := (Hp.blk_cell hS5 3 rfl).1
    clear hS5
    go_simp
    try rfl
  try simp only [Act.put, List.setIfInBounds_toArray, List.set_cons_zero, List.set_cons_succ]
  refine Rg.Upto.one (i := 10) rfl (by kernel_rfl) (by rfl) (fun KK hK => ?_)
  go_simp
  refine (layout_Plan_Head.calls P T R t q _ HQ.out).mono ?_
  rintro e w3 ⟨rfl, hb⟩
  have HP := Lib.hid (blk_below HP1.out hb)
  clear HP1 HSC
  replace HB := Lib.hid (HB.out.trans (hb.mono HS.out.base.1))
  replace HS := Lib.hid (HS.out.below hb)
  replace HF := Lib.hid (HF.out.below hb)
  refine hK.out _ _ ⟨_, HP.out⟩ ?_
  clear hK KK hb
  try simp only [Act.put, List.setIfInBounds_toArray, List.set_cons_zero, List.set_cons_succ]
  obtain ⟨sn, hsn⟩ : ∃ sn, sn = (s.acc true who 1 q 0 0).2 := ⟨_, rfl⟩
  have HSN := Lib.hid hsn
  clear hsn
  refine Rg.Upto.one (i := 11) rfl (by kernel_rfl) (by rfl) (fun KK hK => ?_)
  go_simp
  have hm := HS.out.load i q HI.out HL.out
  rw [← HSN.out] at hm
  refine hm.mono ?_
  clear hm
  rintro e w4 ⟨rfl, hD⟩
  have HP1 := Lib.hid (hD.fr.blk HP.out (not_touch HP.out (blk_ne HP.out (sys_cel HS.out) (by decide)) (by decide)))
  have hF2 := HF.out.then hD.fr (touch_back HF.out)
  replace HB := Lib.hid (HB.out.trans hD.bel)
  clear HF HS HP
  have HF := Lib.hid hF2
  have HS := Lib.hid hD.sys
  refine hK.out _ _ ⟨_, HP1.out⟩ ?_
  clear hK KK hD hF2
  have HSC : ∃ y, w4.heap[m]? = some (.cells #[.int .i64 P, .int .i64 T, .int .i64 R, .int .i64 t, .int .u64 v, .int .i64 1, .int .u64 y, .int .u64 tl, .bool fl] 97 (0, 0)) := ⟨_, HP1.out⟩
  try simp only [Act.put, List.setIfInBounds_toArray, List.set_cons_zero, List.set_cons_succ]
  refine Rg.Upto.takeA (i := 12) (v := ?_) rfl (by kernel_rfl) (by kernel_rfl) (by kernel_rfl) (of_decide_eq_true (by kernel_rfl)) (fun _ _ _ h => h) (by rfl) (fun w5 hS5 => ?_) HSC ?_
  rotate_left
  · obtain ⟨y, hS5⟩ := hS5
    clear hS5
    go_simp
    try rfl
  try simp only [Act.put, List.setIfInBounds_toArray, List.set_cons_zero, List.set_cons_succ]
  refine Rg.Upto.takeA (i := 13) (v := ?_) rfl (by kernel_rfl) (by kernel_rfl) (by kernel_rfl) (of_decide_eq_true (by kernel_rfl)) (fun _ _ _ h => h) (by rfl) (fun w5 hS5 => ?_) HSC ?_
  rotate_left
  · obtain ⟨y, hS5⟩ := hS5
    clear hS5
    go_simp
    try rfl
  try simp only [Act.put, List.setIfInBounds_toArray, List.set_cons_zero, List.set_cons_succ]
  refine Rg.Upto.one (i := 14) rfl (by kernel_rfl) (by rfl) (fun KK hK => ?_)
  obtain ⟨c6, d6⟩ := Hp.blk_cell HP1.out 6 rfl
  go_simp
  have HP2 : (w4.setCell ⟨m, 6, none⟩ (.int .u64 sn)).heap[m]? = some (.cells #[.int .i64 P, .int .i64 T, .int .i64 R, .int .i64 t, .int .u64 v, .int .i64 1, .int .u64 sn, .int .u64 tl, .bool fl] 97 (0, 0)) := Hp.blk_set HP1.out 6 _
  refine hK.out _ _ ⟨_, HP2⟩ ?_
  clear hK KK c6 d6
  try simp only [Act.put, List.setIfInBounds_toArray, List.set_cons_zero, List.set_cons_succ]
  refine Rg.Upto.done (by kernel_rfl) ?_
  have hnt := not_touch HP1.out (blk_ne HP1.out (sys_cel HS.out) (by decide)) (by decide)
  replace HS := Lib.hid (HS.out.fr ((Fr.refl (fun k => k = m) w4).setCell ⟨m, 6, none⟩ (.int .u64 sn) (.inl rfl)) (fun k _ e => by subst e; exact hnt))
  replace HF := Lib.hid (HF.out.setCell ⟨m, 6, none⟩ (.int .u64 sn) (.inl (.inl rfl)))
  replace HB := Lib.hid (HB.out.setCell (p := ⟨m, 6, none⟩) HBm.out (.int .u64 sn))
  clear HSC hnt HP1
  generalize w4.setCell ⟨m, 6, none⟩ (.int .u64 sn) = w6 at HP2 HS HF HB ⊢
  obtain ⟨c5, d5⟩ := Hp.blk_cell HP2 5 rfl
  have HP3 := Lib.hid HP2
  clear HP2
  go_upto_region 10 with (fail)
  replace HS := Lib.hid (HS.out.still ((Fr.refl _ _).drew))
  replace HB := Lib.hid HB.out.drew
  replace HF := Lib.hid HF.out.drew
  have HP4 : Hid (w6.drew.heap[m]? = some (.cells #[.int .i64 P, .int .i64 T, .int .i64 R, .int .i64 t, .int .u64 v, .int .i64 1, .int .u64 sn, .int .u64 tl, .bool fl] 97 (0, 0))) := Lib.hid HP3.out
  clear HP3 c5 d5
  refine Rg.Upto.start (fun w' => w'.heap[m]? = some (.cells #[.int .i64 P, .int .i64 T, .int .i64 R, .int .i64 t, .int .u64 v, .int .i64 1, .int .u64 sn, .int .u64 tl, .bool fl] 97 (0, 0))) 1000 (by kernel_rfl) HP4.out (fun HS0 => ?_)
  have HSC := HS0
  clear HS0
  refine Rg.Upto.takeA (i := 0) (v := ?_) rfl (by kernel_rfl) (by kernel_rfl) (by kernel_rfl) (of_decide_eq_true (by kernel_rfl)) (fun _ _ _ h => h) (by rfl) (fun w5 hS5 => ?_) HSC ?_
  rotate_left
  · clear hS5
    go_simp
    try rfl
  try simp only [Act.put, List.setIfInBounds_toArray, List.set_cons_zero, List.set_cons_succ]
  refine Rg.Upto.takeA (i := 1) (v := ?_) rfl (by kernel_rfl) (by kernel_rfl) (by kernel_rfl) (of_decide_eq_true (by kernel_rfl)) (fun _ _ _ h => h) (by rfl) (fun w5 hS5 => ?_) HSC ?_
  rotate_left
  · clear hS5
    go_simp
    try rfl
  try simp only [Act.put, List.setIfInBounds_toArray, List.set_cons_zero, List.set_cons_succ]
  refine Rg.Upto.takeA (i := 2) (v := ?_) rfl (by kernel_rfl) (by kernel_rfl) (by kernel_rfl) (of_decide_eq_true (by kernel_rfl)) (fun _ _ _ h => h) (by rfl) (fun w5 hS5 => ?_) HSC ?_
  rotate_left
  · clear hS5
    go_simp
    try rfl
  try simp only [Act.put, List.setIfInBounds_toArray, List.set_cons_zero, List.set_cons_succ]
  refine Rg.Upto.takeA (i := 3) (v := ?_) rfl (by kernel_rfl) (by kernel_rfl) (by kernel_rfl) (of_decide_eq_true (by kernel_rfl)) (fun _ _ _ h => h) (by rfl) (fun w5 hS5 => ?_) HSC ?_
  rotate_left
  · have c7 := (Hp.blk_cell hS5 7 rfl).1
    clear hS5
    go_simp
    try rfl
  try simp only [Act.put, List.setIfInBounds_toArray, List.set_cons_zero, List.set_cons_succ]
  refine Rg.Upto.takeA (i := 4) (v := ?_) rfl (by kernel_rfl) (by kernel_rfl) (by kernel_rfl) (of_decide_eq_true (by kernel_rfl)) (fun _ _ _ h => h) (by rfl) (fun w5 hS5 => ?_) HSC ?_
  rotate_left
  · clear hS5
    go_simp
    try rfl
  try simp only [Act.put, List.setIfInBounds_toArray, List.set_cons_zero, List.set_cons_succ]
  refine Rg.Upto.takeA (i := 5) (v := ?_) rfl (by kernel_rfl) (by kernel_rfl) (by kernel_rfl) (of_decide_eq_true (by kernel_rfl)) (fun _ _ _ h => h) (by rfl) (fun w5 hS5 => ?_) HSC ?_
  rotate_left
  · clear hS5
    go_simp
    try rfl
  try simp only [Act.put, List.setIfInBounds_toArray, List.set_cons_zero, List.set_cons_succ]
  refine Rg.Upto.takeA (i := 6) (v := ?_) rfl (by kernel_rfl) (by kernel_rfl) (by kernel_rfl) (of_decide_eq_true (by kernel_rfl)) (fun _ _ _ h => h) (by rfl) (fun w5 hS5 => ?_) HSC ?_
  rotate_left
  · clear hS5
    go_simp
    try rfl
  try simp only [Act.put, List.setIfInBounds_toArray, List.set_cons_zero, List.set_cons_succ]
  refine Rg.Upto.takeA (i := 7) (v := ?_) rfl (by kernel_rfl) (by kernel_rfl) (by kernel_rfl) (of_decide_eq_true (by kernel_rfl)) (fun _ _ _ h => h) (by rfl) (fun w5 hS5 => ?_) HSC ?_
  rotate_left
  · have c6 := (Hp.blk_cell hS5 6 rfl).1
    clear hS5
    go_simp
    try rfl
  try simp only [Act.put, List.setIfInBounds_toArray, List.set_cons_zero, List.set_cons_succ]
  refine Rg.Upto.takeA (i := 8) (v := ?_) rfl (by kernel_rfl) (by kernel_rfl) (by kernel_rfl) (of_decide_eq_true (by kernel_rfl)) (fun _ _ _ h => h) (by rfl) (fun w5 hS5 => ?_) HSC ?_
  rotate_left
  · clear hS5
    go_simp
    try rfl
  try simp only [Act.put, List.setIfInBounds_toArray, List.set_cons_zero, List.set_cons_succ]
  refine Rg.Upto.takeA (i := 9) (v := ?_) rfl (by kernel_rfl) (by kernel_rfl) (by kernel_rfl) (of_decide_eq_true (by kernel_rfl)) (fun _ _ _ h => h) (by rfl) (fun w5 hS5 => ?_) HSC ?_
  rotate_left
  · clear hS5
    go_simp
    try rfl
  try simp only [Act.put, List.setIfInBounds_toArray, List.set_cons_zero, List.set_cons_succ]
  refine Rg.Upto.takeA (i := 10) (v := ?_) rfl (by kernel_rfl) (by kernel_rfl) (by kernel_rfl) (of_decide_eq_true (by kernel_rfl)) (fun _ _ _ h => h) (by rfl) (fun w5 hS5 => ?_) HSC ?_
  rotate_left
  · clear hS5
    go_simp
    try rfl
  try simp only [Act.put, List.setIfInBounds_toArray, List.set_cons_zero, List.set_cons_succ]
  refine Rg.Upto.takeA (i := 11) (v := ?_) rfl (by kernel_rfl) (by kernel_rfl) (by kernel_rfl) (of_decide_eq_true (by kernel_rfl)) (fun _ _ _ h => h) (by rfl) (fun w5 hS5 => ?_) HSC ?_
  rotate_left
  · clear hS5
    go_simp
    try rfl
  try simp only [Act.put, List.setIfInBounds_toArray, List.set_cons_zero, List.set_cons_succ]
  refine Rg.Upto.takeA (i := 12) (v := ?_) rfl (by kernel_rfl) (by kernel_rfl) (by kernel_rfl) (of_decide_eq_true (by kernel_rfl)) (fun _ _ _ h => h) (by rfl) (fun w5 hS5 => ?_) HSC ?_
  rotate_left
  · clear hS5
    go_simp
    try rfl
  try simp only [Act.put, List.setIfInBounds_toArray, List.set_cons_zero, List.set_cons_succ]
  refine Rg.Upto.takeA (i := 13) (v := ?_) rfl (by kernel_rfl) (by kernel_rfl) (by kernel_rfl) (of_decide_eq_true (by kernel_rfl)) (fun _ _ _ h => h) (by rfl) (fun w5 hS5 => ?_) HSC ?_
  rotate_left
  · have c2 := (Hp.blk_cell hS5 2 rfl).1
    clear hS5
    go_simp
    try rfl
  try simp only [Act.put, List.setIfInBounds_toArray, List.set_cons_zero, List.set_cons_succ]
  refine Rg.Upto.takeA (i := 14) (v := ?_) rfl (by kernel_rfl) (by kernel_rfl) (by kernel_rfl) (of_decide_eq_true (by kernel_rfl)) (fun _ _ _ h => h) (by rfl) (fun w5 hS5 => ?_) HSC ?_
  rotate_left
  · clear hS5
    go_simp
    try rfl
  try simp only [Act.put, List.setIfInBounds_toArray, List.set_cons_zero, List.set_cons_succ]
  refine Rg.Upto.takeA (i := 15) (v := ?_) rfl (by kernel_rfl) (by kernel_rfl) (by kernel_rfl) (of_decide_eq_true (by kernel_rfl)) (fun _ _ _ h => h) (by rfl) (fun w5 hS5 => ?_) HSC ?_
  rotate_left
  · clear hS5
    go_simp
    try rfl
  try simp only [Act.put, List.setIfInBounds_toArray, List.set_cons_zero, List.set_cons_succ]
  refine Rg.Upto.done (by kernel_rfl) ?_
  clear HSC
  obtain ⟨c5, d5⟩ := Hp.blk_cell (w := w6) HP4.out 5 rfl
  obtain ⟨c8, d8⟩ := Hp.blk_cell (w := w6) HP4.out 8 rfl
  have hz := HZ.out
  rw [← HSN.out] at hz
  have z1 := decide_eq_true (p := IntKind.u64.wrap R ≤ IntKind.u64.wrap (tl - sn)) (by omega)
  go_wp2_with (fail)
  go_ret
  have hnt := not_touch HP4.out (blk_ne HP4.out (sys_cel HS.out) (by decide)) (by decide)
  rw [← HSN.out]
  exact ⟨rfl, Hp.blk_set (Hp.blk_set HP4.out 8 (.bool true)) 5 _, HS.out.fr (((Fr.refl (fun k => k = m) w6.drew).setCell ⟨m, 8, none⟩ (.bool true) (.inl rfl)).setCell ⟨m, 5, none⟩ (.int .i64 4) (.inl rfl)) (fun k _ e => by subst e; exact hnt), (HB.out.setCell (p := ⟨m, 8, none⟩) HBm.out _).setCell (p := ⟨m, 5, none⟩) HBm.out _, (HF.out.setCell ⟨m, 8, none⟩ _ (.inl (.inl rfl))).setCell ⟨m, 5, none⟩ _ (.inl (.inl rfl))⟩

set_option maxHeartbeats 2000000 in
set_option maxRecDepth 100000 in
theorem push_step1room {B : Nat} {w : World} {a c p : Nat} {s : AS} {who : Int} {ps : List (Nat × Int × Bool)} {P T R t v hd tl : Int} {fl : Bool} {q : Int} (hs : Sys B w a c s ps) (i : Nat) (hi : ps[i]? = some (p, who, true)) (m : Nat) (h : IsPush w m ⟨P, T, R, t, v, 1, hd, tl, fl⟩) (hB : B ≤ m) (hq : layout_Plan_Head.f P T R t = some q) (hl : s.log.length ≤ 1000000) (hz : ¬ IntKind.u64.wrap R ≤ IntKind.u64.wrap (tl - (s.acc true who 1 q 0 0).2)) :
    Calls Try.prog 24 #[.pointer (some ⟨m, 0, none⟩), .pointer (some ⟨p, 0, none⟩)] w fun e w' => e = .returned (.bool false) ∧ IsPush w' m ⟨P, T, R, t, v, 2, (s.acc true who 1 q 0 0).2, tl, fl⟩ ∧ Sys B w' a c (s.acc true who 1 q 0 0).1 (ps.set i (p, who, false)) ∧ Below B w w' ∧ Fr (fun k => k = m ∨ Touch c w k) w w' := by
  have h' : w.heap[m]? = some (.cells #[.int .i64 P, .int .i64 T, .int .i64 R, .int .i64 t, .int .u64 v, .int .i64 1, .int .u64 hd, .int .u64 tl, .bool fl] 97 (0, 0)) := h
  have HO := Lib.hid (hs.open_ i hi)
  have HS := Lib.hid hs
  have HQ := Lib.hid hq
  have HI := Lib.hid hi
  have HL := Lib.hid hl
  obtain ⟨c5, -⟩ := Hp.blk_cell h' 5 rfl
  have HP := Lib.hid h'
  have HB := Lib.hid (Below.refl B w)
  have HF := Lib.hid (Fr.refl (fun k => k = m ∨ Touch c w k) w)
  have HBm := Lib.hid hB
  have HZ := Lib.hid hz
  clear hs hi h h' hq hl hB hz
  go_enter Try.func24, Try.ntmps24
  go_upto_region 9 with (first | (go_at_call 50; (refine HO.out.mono ?_; clear HO; rintro e w2 ⟨rfl, rfl⟩)))
  clear c5
  replace HS := Lib.hid (HS.out.still ((Fr.refl _ _).drew))
  replace HB := Lib.hid HB.out.drew
  replace HF := Lib.hid HF.out.drew
  have HP1 : Hid (w2.drew.heap[m]? = some (.cells #[.int .i64 P, .int .i64 T, .int .i64 R, .int .i64 t, .int .u64 v, .int .i64 1, .int .u64 hd, .int .u64 tl, .bool fl] 97 (0, 0))) := Lib.hid HP.out
  clear HP
  refine Rg.Upto.start (fun w' => ∃ y, w'.heap[m]? = some (.cells #[.int .i64 P, .int .i64 T, .int .i64 R, .int .i64 t, .int .u64 v, .int .i64 1, .int .u64 y, .int .u64 tl, .bool fl] 97 (0, 0))) 1000 (by kernel_rfl) ⟨_, HP1.out⟩ (fun HS0 => ?_)
  have HSC := HS0
  clear HS0
  refine Rg.Upto.takeA (i := 0) (v := ?_) rfl (by kernel_rfl) (by kernel_rfl) (by kernel_rfl) (of_decide_eq_true (by kernel_rfl)) (fun _ _ _ h => h) (by rfl) (fun w5 hS5 => ?_) HSC ?_
  rotate_left
  · obtain ⟨y, hS5⟩ := hS5
    clear hS5
    go_simp
    try rfl
  try simp only [Act.put, List.setIfInBounds_toArray, List.set_cons_zero, List.set_cons_succ]
  refine Rg.Upto.takeA (i := 1) (v := ?_) rfl (by kernel_rfl) (by kernel_rfl) (by kernel_rfl) (of_decide_eq_true (by kernel_rfl)) (fun _ _ _ h => h) (by rfl) (fun w5 hS5 => ?_) HSC ?_
  rotate_left
  · obtain ⟨y, hS5⟩ := hS5
    clear hS5
    go_simp
    try rfl
  try simp only [Act.put, List.setIfInBounds_toArray, List.set_cons_zero, List.set_cons_succ]
  refine Rg.Upto.takeA (i := 2) (v := ?_) rfl (by kernel_rfl) (by kernel_rfl) (by kernel_rfl) (of_decide_eq_true (by kernel_rfl)) (fun _ _ _ h => h) (by rfl) (fun w5 hS5 => ?_) HSC ?_
  rotate_left
  · obtain ⟨y, hS5⟩ := hS5
    clear hS5
    go_simp
    try rfl
  try simp only [Act.put, List.setIfInBounds_toArray, List.set_cons_zero, List.set_cons_succ]
  refine Rg.Upto.takeA (i := 3) (v := ?_) rfl (by kernel_rfl) (by kernel_rfl) (by kernel_rfl) (of_decide_eq_true (by kernel_rfl)) (fun _ _ _ h => h) (by rfl) (fun w5 hS5 => ?_) HSC ?_
  rotate_left
  · obtain ⟨y, hS5⟩ := hS5
    clear hS5
    go_simp
    try rfl
  try simp only [Act.put, List.setIfInBounds_toArray, List.set_cons_zero, List.set_cons_succ]
  refine Rg.Upto.takeA (i := 4) (v := ?_) rfl (by kernel_rfl) (by kernel_rfl) (by kernel_rfl) (of_decide_eq_true (by kernel_rfl)) (fun _ _ _ h => h) (by rfl) (fun w5 hS5 => ?_) HSC ?_
  rotate_left
  · obtain ⟨y, hS5⟩ := hS5
    clear hS5
    go_simp
    try rfl
  try simp only [Act.put, List.setIfInBounds_toArray, List.set_cons_zero, List.set_cons_succ]
  refine Rg.Upto.takeA (i := 5) (v := ?_) rfl (by kernel_rfl) (by kernel_rfl) (by kernel_rfl) (of_decide_eq_true (by kernel_rfl)) (fun _ _ _ h => h) (by rfl) (fun w5 hS5 => ?_) HSC ?_
  rotate_left
  · obtain ⟨y, hS5⟩ := hS5
    have c0 := (Hp.blk_cell hS5 0 rfl).1
    have c1 := (Hp.blk_cell hS5 1 rfl).1
    have c2 := (Hp.blk_cell hS5 2 rfl).1
    clear hS5
    go_simp
    try rfl
  try simp only [Act.put, List.setIfInBounds_toArray, List.set_cons_zero, List.set_cons_succ]
  refine Rg.Upto.takeA (i := 6) (v := ?_) rfl (by kernel_rfl) (by kernel_rfl) (by kernel_rfl) (of_decide_eq_true (by kernel_rfl)) (fun _ _ _ h => h) (by rfl) (fun w5 hS5 => ?_) HSC ?_
  rotate_left
  · obtain ⟨y, hS5⟩ := hS5
    clear hS5
    go_simp
    try rfl
  try simp only [Act.put, List.setIfInBounds_toArray, List.set_cons_zero, List.set_cons_succ]
  refine Rg.Upto.takeA (i := 7) (v := ?_) rfl (by kernel_rfl) (by kernel_rfl) (by kernel_rfl) (of_decide_eq_true (by kernel_rfl)) (fun _ _ _ h => h) (by rfl) (fun w5 hS5 => ?_) HSC ?_
  rotate_left
  · obtain ⟨y, hS5⟩ := hS5
    clear hS5
    go_simp
    try rfl
  try simp only [Act.put, List.setIfInBounds_toArray, List.set_cons_zero, List.set_cons_succ]
  refine Rg.Upto.takeA (i := 8) (v := ?_) rfl (by kernel_rfl) (by kernel_rfl) (by kernel_rfl) (of_decide_eq_true (by kernel_rfl)) (fun _ _ _ h => h) (by rfl) (fun w5 hS5 => ?_) HSC ?_
  rotate_left
  · obtain ⟨y, hS5⟩ := hS5
    clear hS5
    go_simp
    try rfl
  try simp only [Act.put, List.setIfInBounds_toArray, List.set_cons_zero, List.set_cons_succ]
  refine Rg.Upto.takeA (i := 9) (v := ?_) rfl (by kernel_rfl) (by kernel_rfl) (by kernel_rfl) (of_decide_eq_true (by kernel_rfl)) (fun _ _ _ h => h) (by rfl) (fun w5 hS5 => ?_) HSC ?_
  rotate_left
  · obtain ⟨y, hS5⟩ := hS5
    have c3 := (Hp.blk_cell hS5 3 rfl).1
    clear hS5
    go_simp
    try rfl
  try simp only [Act.put, List.setIfInBounds_toArray, List.set_cons_zero, List.set_cons_succ]
  refine Rg.Upto.one (i := 10) rfl (by kernel_rfl) (by rfl) (fun KK hK => ?_)
  go_simp
  refine (layout_Plan_Head.calls P T R t q _ HQ.out).mono ?_
  rintro e w3 ⟨rfl, hb⟩
  have HP := Lib.hid (blk_below HP1.out hb)
  clear HP1 HSC
  replace HB := Lib.hid (HB.out.trans (hb.mono HS.out.base.1))
  replace HS := Lib.hid (HS.out.below hb)
  replace HF := Lib.hid (HF.out.below hb)
  refine hK.out _ _ ⟨_, HP.out⟩ ?_
  clear hK KK hb
  try simp only [Act.put, List.setIfInBounds_toArray, List.set_cons_zero, List.set_cons_succ]
  obtain ⟨sn, hsn⟩ : ∃ sn, sn = (s.acc true who 1 q 0 0).2 := ⟨_, rfl⟩
  have HSN := Lib.hid hsn
  clear hsn
  refine Rg.Upto.one (i := 11) rfl (by kernel_rfl) (by rfl) (fun KK hK => ?_)
  go_simp
  have hm := HS.out.load i q HI.out HL.out
  rw [← HSN.out] at hm
  refine hm.mono ?_
  clear hm
  rintro e w4 ⟨rfl, hD⟩
  have HP1 := Lib.hid (hD.fr.blk HP.out (not_touch HP.out (blk_ne HP.out (sys_cel HS.out) (by decide)) (by decide)))
  have hF2 := HF.out.then hD.fr (touch_back HF.out)
  replace HB := Lib.hid (HB.out.trans hD.bel)
  clear HF HS HP
  have HF := Lib.hid hF2
  have HS := Lib.hid hD.sys
  refine hK.out _ _ ⟨_, HP1.out⟩ ?_
  clear hK KK hD hF2
  have HSC : ∃ y, w4.heap[m]? = some (.cells #[.int .i64 P, .int .i64 T, .int .i64 R, .int .i64 t, .int .u64 v, .int .i64 1, .int .u64 y, .int .u64 tl, .bool fl] 97 (0, 0)) := ⟨_, HP1.out⟩
  try simp only [Act.put, List.setIfInBounds_toArray, List.set_cons_zero, List.set_cons_succ]
  refine Rg.Upto.takeA (i := 12) (v := ?_) rfl (by kernel_rfl) (by kernel_rfl) (by kernel_rfl) (of_decide_eq_true (by kernel_rfl)) (fun _ _ _ h => h) (by rfl) (fun w5 hS5 => ?_) HSC ?_
  rotate_left
  · obtain ⟨y, hS5⟩ := hS5
    clear hS5
    go_simp
    try rfl
  try simp only [Act.put, List.setIfInBounds_toArray, List.set_cons_zero, List.set_cons_succ]
  refine Rg.Upto.takeA (i := 13) (v := ?_) rfl (by kernel_rfl) (by kernel_rfl) (by kernel_rfl) (of_decide_eq_true (by kernel_rfl)) (fun _ _ _ h => h) (by rfl) (fun w5 hS5 => ?_) HSC ?_
  rotate_left
  · obtain ⟨y, hS5⟩ := hS5
    clear hS5
    go_simp
    try rfl
  try simp only [Act.put, List.setIfInBounds_toArray, List.set_cons_zero, List.set_cons_succ]
  refine Rg.Upto.one (i := 14) rfl (by kernel_rfl) (by rfl) (fun KK hK => ?_)
  obtain ⟨c6, d6⟩ := Hp.blk_cell HP1.out 6 rfl
  go_simp
  have HP2 : (w4.setCell ⟨m, 6, none⟩ (.int .u64 sn)).heap[m]? = some (.cells #[.int .i64 P, .int .i64 T, .int .i64 R, .int .i64 t, .int .u64 v, .int .i64 1, .int .u64 sn, .int .u64 tl, .bool fl] 97 (0, 0)) := Hp.blk_set HP1.out 6 _
  refine hK.out _ _ ⟨_, HP2⟩ ?_
  clear hK KK c6 d6
  try simp only [Act.put, List.setIfInBounds_toArray, List.set_cons_zero, List.set_cons_succ]
  refine Rg.Upto.done (by kernel_rfl) ?_
  have hnt := not_touch HP1.out (blk_ne HP1.out (sys_cel HS.out) (by decide)) (by decide)
  replace HS := Lib.hid (HS.out.fr ((Fr.refl (fun k => k = m) w4).setCell ⟨m, 6, none⟩ (.int .u64 sn) (.inl rfl)) (fun k _ e => by subst e; exact hnt))
  replace HF := Lib.hid (HF.out.setCell ⟨m, 6, none⟩ (.int .u64 sn) (.inl (.inl rfl)))
  replace HB := Lib.hid (HB.out.setCell (p := ⟨m, 6, none⟩) HBm.out (.int .u64 sn))
  clear HSC hnt HP1
  generalize w4.setCell ⟨m, 6, none⟩ (.int .u64 sn) = w6 at HP2 HS HF HB ⊢
  obtain ⟨c5, d5⟩ := Hp.blk_cell HP2 5 rfl
  have HP3 := Lib.hid HP2
  clear HP2
  go_upto_region 10 with (fail)
  replace HS := Lib.hid (HS.out.still ((Fr.refl _ _).drew))
  replace HB := Lib.hid HB.out.drew
  replace HF := Lib.hid HF.out.drew
  have HP4 : Hid (w6.drew.heap[m]? = some (.cells #[.int .i64 P, .int .i64 T, .int .i64 R, .int .i64 t, .int .u64 v, .int .i64 1, .int .u64 sn, .int .u64 tl, .bool fl] 97 (0, 0))) := Lib.hid HP3.out
  clear HP3 c5 d5
  refine Rg.Upto.start (fun w' => w'.heap[m]? = some (.cells #[.int .i64 P, .int .i64 T, .int .i64 R, .int .i64 t, .int .u64 v, .int .i64 1, .int .u64 sn, .int .u64 tl, .bool fl] 97 (0, 0))) 1000 (by kernel_rfl) HP4.out (fun HS0 => ?_)
  have HSC := HS0
  clear HS0
  refine Rg.Upto.takeA (i := 0) (v := ?_) rfl (by kernel_rfl) (by kernel_rfl) (by kernel_rfl) (of_decide_eq_true (by kernel_rfl)) (fun _ _ _ h => h) (by rfl) (fun w5 hS5 => ?_) HSC ?_
  rotate_left
  · clear hS5
    go_simp
    try rfl
  try simp only [Act.put, List.setIfInBounds_toArray, List.set_cons_zero, List.set_cons_succ]
  refine Rg.Upto.takeA (i := 1) (v := ?_) rfl (by kernel_rfl) (by kernel_rfl) (by kernel_rfl) (of_decide_eq_true (by kernel_rfl)) (fun _ _ _ h => h) (by rfl) (fun w5 hS5 => ?_) HSC ?_
  rotate_left
  · clear hS5
    go_simp
    try rfl
  try simp only [Act.put, List.setIfInBounds_toArray, List.set_cons_zero, List.set_cons_succ]
  refine Rg.Upto.takeA (i := 2) (v := ?_) rfl (by kernel_rfl) (by kernel_rfl) (by kernel_rfl) (of_decide_eq_true (by kernel_rfl)) (fun _ _ _ h => h) (by rfl) (fun w5 hS5 => ?_) HSC ?_
  rotate_left
  · clear hS5
    go_simp
    try rfl
  try simp only [Act.put, List.setIfInBounds_toArray, List.set_cons_zero, List.set_cons_succ]
  refine Rg.Upto.takeA (i := 3) (v := ?_) rfl (by kernel_rfl) (by kernel_rfl) (by kernel_rfl) (of_decide_eq_true (by kernel_rfl)) (fun _ _ _ h => h) (by rfl) (fun w5 hS5 => ?_) HSC ?_
  rotate_left
  · have c7 := (Hp.blk_cell hS5 7 rfl).1
    clear hS5
    go_simp
    try rfl
  try simp only [Act.put, List.setIfInBounds_toArray, List.set_cons_zero, List.set_cons_succ]
  refine Rg.Upto.takeA (i := 4) (v := ?_) rfl (by kernel_rfl) (by kernel_rfl) (by kernel_rfl) (of_decide_eq_true (by kernel_rfl)) (fun _ _ _ h => h) (by rfl) (fun w5 hS5 => ?_) HSC ?_
  rotate_left
  · clear hS5
    go_simp
    try rfl
  try simp only [Act.put, List.setIfInBounds_toArray, List.set_cons_zero, List.set_cons_succ]
  refine Rg.Upto.takeA (i := 5) (v := ?_) rfl (by kernel_rfl) (by kernel_rfl) (by kernel_rfl) (of_decide_eq_true (by kernel_rfl)) (fun _ _ _ h => h) (by rfl) (fun w5 hS5 => ?_) HSC ?_
  rotate_left
  · clear hS5
    go_simp
    try rfl
  try simp only [Act.put, List.setIfInBounds_toArray, List.set_cons_zero, List.set_cons_succ]
  refine Rg.Upto.takeA (i := 6) (v := ?_) rfl (by kernel_rfl) (by kernel_rfl) (by kernel_rfl) (of_decide_eq_true (by kernel_rfl)) (fun _ _ _ h => h) (by rfl) (fun w5 hS5 => ?_) HSC ?_
  rotate_left
  · clear hS5
    go_simp
    try rfl
  try simp only [Act.put, List.setIfInBounds_toArray, List.set_cons_zero, List.set_cons_succ]
  refine Rg.Upto.takeA (i := 7) (v := ?_) rfl (by kernel_rfl) (by kernel_rfl) (by kernel_rfl) (of_decide_eq_true (by kernel_rfl)) (fun _ _ _ h => h) (by rfl) (fun w5 hS5 => ?_) HSC ?_
  rotate_left
  · have c6 := (Hp.blk_cell hS5 6 rfl).1
    clear hS5
    go_simp
    try rfl
  try simp only [Act.put, List.setIfInBounds_toArray, List.set_cons_zero, List.set_cons_succ]
  refine Rg.Upto.takeA (i := 8) (v := ?_) rfl (by kernel_rfl) (by kernel_rfl) (by kernel_rfl) (of_decide_eq_true (by kernel_rfl)) (fun _ _ _ h => h) (by rfl) (fun w5 hS5 => ?_) HSC ?_
  rotate_left
  · clear hS5
    go_simp
    try rfl
  try simp only [Act.put, List.setIfInBounds_toArray, List.set_cons_zero, List.set_cons_succ]
  refine Rg.Upto.takeA (i := 9) (v := ?_) rfl (by kernel_rfl) (by kernel_rfl) (by kernel_rfl) (of_decide_eq_true (by kernel_rfl)) (fun _ _ _ h => h) (by rfl) (fun w5 hS5 => ?_) HSC ?_
  rotate_left
  · clear hS5
    go_simp
    try rfl
  try simp only [Act.put, List.setIfInBounds_toArray, List.set_cons_zero, List.set_cons_succ]
  refine Rg.Upto.takeA (i := 10) (v := ?_) rfl (by kernel_rfl) (by kernel_rfl) (by kernel_rfl) (of_decide_eq_true (by kernel_rfl)) (fun _ _ _ h => h) (by rfl) (fun w5 hS5 => ?_) HSC ?_
  rotate_left
  · clear hS5
    go_simp
    try rfl
  try simp only [Act.put, List.setIfInBounds_toArray, List.set_cons_zero, List.set_cons_succ]
  refine Rg.Upto.takeA (i := 11) (v := ?_) rfl (by kernel_rfl) (by kernel_rfl) (by kernel_rfl) (of_decide_eq_true (by kernel_rfl)) (fun _ _ _ h => h) (by rfl) (fun w5 hS5 => ?_) HSC ?_
  rotate_left
  · clear hS5
    go_simp
    try rfl
  try simp only [Act.put, List.setIfInBounds_toArray, List.set_cons_zero, List.set_cons_succ]
  refine Rg.Upto.takeA (i := 12) (v := ?_) rfl (by kernel_rfl) (by kernel_rfl) (by kernel_rfl) (of_decide_eq_true (by kernel_rfl)) (fun _ _ _ h => h) (by rfl) (fun w5 hS5 => ?_) HSC ?_
  rotate_left
  · clear hS5
    go_simp
    try rfl
  try simp only [Act.put, List.setIfInBounds_toArray, List.set_cons_zero, List.set_cons_succ]
  refine Rg.Upto.takeA (i := 13) (v := ?_) rfl (by kernel_rfl) (by kernel_rfl) (by kernel_rfl) (of_decide_eq_true (by kernel_rfl)) (fun _ _ _ h => h) (by rfl) (fun w5 hS5 => ?_) HSC ?_
  rotate_left
  · have c2 := (Hp.blk_cell hS5 2 rfl).1
    clear hS5
    go_simp
    try rfl
  try simp only [Act.put, List.setIfInBounds_toArray, List.set_cons_zero, List.set_cons_succ]
  refine Rg.Upto.takeA (i := 14) (v := ?_) rfl (by kernel_rfl) (by kernel_rfl) (by kernel_rfl) (of_decide_eq_true (by kernel_rfl)) (fun _ _ _ h => h) (by rfl) (fun w5 hS5 => ?_) HSC ?_
  rotate_left
  · clear hS5
    go_simp
    try rfl
  try simp only [Act.put, List.setIfInBounds_toArray, List.set_cons_zero, List.set_cons_succ]
  refine Rg.Upto.takeA (i := 15) (v := ?_) rfl (by kernel_rfl) (by kernel_rfl) (by kernel_rfl) (of_decide_eq_true (by kernel_rfl)) (fun _ _ _ h => h) (by rfl) (fun w5 hS5 => ?_) HSC ?_
  rotate_left
  · clear hS5
    go_simp
    try rfl
  try simp only [Act.put, List.setIfInBounds_toArray, List.set_cons_zero, List.set_cons_succ]
  refine Rg.Upto.done (by kernel_rfl) ?_
  clear HSC
  obtain ⟨c5, d5⟩ := Hp.blk_cell (w := w6) HP4.out 5 rfl
  obtain ⟨c8, d8⟩ := Hp.blk_cell (w := w6) HP4.out 8 rfl
  have hz := HZ.out
  rw [← HSN.out] at hz
  have z1 := decide_eq_false (p := IntKind.u64.wrap R ≤ IntKind.u64.wrap (tl - sn)) (by omega)
  go_wp2_with (fail)
  go_ret
  have hnt := not_touch HP4.out (blk_ne HP4.out (sys_cel HS.out) (by decide)) (by decide)
  rw [← HSN.out]
  exact ⟨rfl, Hp.blk_set HP4.out 5 _, HS.out.fr ((Fr.refl (fun k => k = m) w6.drew).setCell ⟨m, 5, none⟩ (.int .i64 2) (.inl rfl)) (fun k _ e => by subst e; exact hnt), HB.out.setCell (p := ⟨m, 5, none⟩) HBm.out _, HF.out.setCell ⟨m, 5, none⟩ _ (.inl (.inl rfl))⟩

set_option maxHeartbeats 2000000 in
set_option maxRecDepth 100000 in
theorem push_step2 {B : Nat} {w : World} {a c p : Nat} {s : AS} {who : Int} {ps : List (Nat × Int × Bool)} {P T R t v hd tl : Int} {fl : Bool} {q : Int} (hs : Sys B w a c s ps) (i : Nat) (hi : ps[i]? = some (p, who, true)) (m : Nat) (h : IsPush w m ⟨P, T, R, t, v, 2, hd, tl, fl⟩) (hB : B ≤ m) (hq : layout_Plan_Slot.f P T R t tl = some q) (hl : s.log.length ≤ 1000000) :
    Calls Try.prog 24 #[.pointer (some ⟨m, 0, none⟩), .pointer (some ⟨p, 0, none⟩)] w fun e w' => e = .returned (.bool false) ∧ IsPush w' m ⟨P, T, R, t, v, 3, hd, tl, fl⟩ ∧ Sys B w' a c (s.acc true who 2 q 0 v).1 (ps.set i (p, who, false)) ∧ Below B w w' ∧ Fr (fun k => k = m ∨ Touch c w k) w w' := by
  have h' : w.heap[m]? = some (.cells #[.int .i64 P, .int .i64 T, .int .i64 R, .int .i64 t, .int .u64 v, .int .i64 2, .int .u64 hd, .int .u64 tl, .bool fl] 97 (0, 0)) := h
  have HO := Lib.hid (hs.open_ i hi)
  have HS := Lib.hid hs
  have HQ := Lib.hid hq
  have HI := Lib.hid hi
  have HL := Lib.hid hl
  obtain ⟨c5, -⟩ := Hp.blk_cell h' 5 rfl
  have HP := Lib.hid h'
  have HB := Lib.hid (Below.refl B w)
  have HF := Lib.hid (Fr.refl (fun k => k = m ∨ Touch c w k) w)
  have HBm := Lib.hid hB
  clear hs hi h h' hq hl hB
  go_enter Try.func24, Try.ntmps24
  go_upto_region 14 with (first | (go_at_call 50; (refine HO.out.mono ?_; clear HO; rintro e w2 ⟨rfl, rfl⟩)))
  clear c5
  replace HS := Lib.hid (HS.out.still ((Fr.refl _ _).drew))
  replace HB := Lib.hid HB.out.drew
  replace HF := Lib.hid HF.out.drew
  have HP1 : Hid (w2.drew.heap[m]? = some (.cells #[.int .i64 P, .int .i64 T, .int .i64 R, .int .i64 t, .int .u64 v, .int .i64 2, .int .u64 hd, .int .u64 tl, .bool fl] 97 (0, 0))) := Lib.hid HP.out
  clear HP
  refine Rg.Upto.start (fun w' => w'.heap[m]? = some (.cells #[.int .i64 P, .int .i64 T, .int .i64 R, .int .i64 t, .int .u64 v, .int .i64 2, .int .u64 hd, .int .u64 tl, .bool fl] 97 (0, 0))) 1000 (by kernel_rfl) HP1.out (fun HS0 => ?_)
  have HSC := HS0
  clear HS0
  refine Rg.Upto.takeA (i := 0) (v := ?_) rfl (by kernel_rfl) (by kernel_rfl) (by kernel_rfl) (of_decide_eq_true (by kernel_rfl)) (fun _ _ _ h => h) (by rfl) (fun w5 hS5 => ?_) HSC ?_
  rotate_left
  · clear hS5
    go_simp
    try rfl
  try simp only [Act.put, List.setIfInBounds_toArray, List.set_cons_zero, List.set_cons_succ]
  refine Rg.Upto.takeA (i := 1) (v := ?_) rfl (by kernel_rfl) (by kernel_rfl) (by kernel_rfl) (of_decide_eq_true (by kernel_rfl)) (fun _ _ _ h => h) (by rfl) (fun w5 hS5 => ?_) HSC ?_
  rotate_left
  · clear hS5
    go_simp
    try rfl
  try simp only [Act.put, List.setIfInBounds_toArray, List.set_cons_zero, List.set_cons_succ]
  refine Rg.Upto.takeA (i := 2) (v := ?_) rfl (by kernel_rfl) (by kernel_rfl) (by kernel_rfl) (of_decide_eq_true (by kernel_rfl)) (fun _ _ _ h => h) (by rfl) (fun w5 hS5 => ?_) HSC ?_
  rotate_left
  · clear hS5
    go_simp
    try rfl
  try simp only [Act.put, List.setIfInBounds_toArray, List.set_cons_zero, List.set_cons_succ]
  refine Rg.Upto.takeA (i := 3) (v := ?_) rfl (by kernel_rfl) (by kernel_rfl) (by kernel_rfl) (of_decide_eq_true (by kernel_rfl)) (fun _ _ _ h => h) (by rfl) (fun w5 hS5 => ?_) HSC ?_
  rotate_left
  · clear hS5
    go_simp
    try rfl
  try simp only [Act.put, List.setIfInBounds_toArray, List.set_cons_zero, List.set_cons_succ]
  refine Rg.Upto.takeA (i := 4) (v := ?_) rfl (by kernel_rfl) (by kernel_rfl) (by kernel_rfl) (of_decide_eq_true (by kernel_rfl)) (fun _ _ _ h => h) (by rfl) (fun w5 hS5 => ?_) HSC ?_
  rotate_left
  · have c0 := (Hp.blk_cell hS5 0 rfl).1
    have c1 := (Hp.blk_cell hS5 1 rfl).1
    have c2 := (Hp.blk_cell hS5 2 rfl).1
    clear hS5
    go_simp
    try rfl
  try simp only [Act.put, List.setIfInBounds_toArray, List.set_cons_zero, List.set_cons_succ]
  refine Rg.Upto.takeA (i := 5) (v := ?_) rfl (by kernel_rfl) (by kernel_rfl) (by kernel_rfl) (of_decide_eq_true (by kernel_rfl)) (fun _ _ _ h => h) (by rfl) (fun w5 hS5 => ?_) HSC ?_
  rotate_left
  · clear hS5
    go_simp
    try rfl
  try simp only [Act.put, List.setIfInBounds_toArray, List.set_cons_zero, List.set_cons_succ]
  refine Rg.Upto.takeA (i := 6) (v := ?_) rfl (by kernel_rfl) (by kernel_rfl) (by kernel_rfl) (of_decide_eq_true (by kernel_rfl)) (fun _ _ _ h => h) (by rfl) (fun w5 hS5 => ?_) HSC ?_
  rotate_left
  · clear hS5
    go_simp
    try rfl
  try simp only [Act.put, List.setIfInBounds_toArray, List.set_cons_zero, List.set_cons_succ]
  refine Rg.Upto.takeA (i := 7) (v := ?_) rfl (by kernel_rfl) (by kernel_rfl) (by kernel_rfl) (of_decide_eq_true (by kernel_rfl)) (fun _ _ _ h => h) (by rfl) (fun w5 hS5 => ?_) HSC ?_
  rotate_left
  · clear hS5
    go_simp
    try rfl
  try simp only [Act.put, List.setIfInBounds_toArray, List.set_cons_zero, List.set_cons_succ]
  refine Rg.Upto.takeA (i := 8) (v := ?_) rfl (by kernel_rfl) (by kernel_rfl) (by kernel_rfl) (of_decide_eq_true (by kernel_rfl)) (fun _ _ _ h => h) (by rfl) (fun w5 hS5 => ?_) HSC ?_
  rotate_left
  · have c3 := (Hp.blk_cell hS5 3 rfl).1
    clear hS5
    go_simp
    try rfl
  try simp only [Act.put, List.setIfInBounds_toArray, List.set_cons_zero, List.set_cons_succ]
  refine Rg.Upto.takeA (i := 9) (v := ?_) rfl (by kernel_rfl) (by kernel_rfl) (by kernel_rfl) (of_decide_eq_true (by kernel_rfl)) (fun _ _ _ h => h) (by rfl) (fun w5 hS5 => ?_) HSC ?_
  rotate_left
  · clear hS5
    go_simp
    try rfl
  try simp only [Act.put, List.setIfInBounds_toArray, List.set_cons_zero, List.set_cons_succ]
  refine Rg.Upto.takeA (i := 10) (v := ?_) rfl (by kernel_rfl) (by kernel_rfl) (by kernel_rfl) (of_decide_eq_true (by kernel_rfl)) (fun _ _ _ h => h) (by rfl) (fun w5 hS5 => ?_) HSC ?_
  rotate_left
  · clear hS5
    go_simp
    try rfl
  try simp only [Act.put, List.setIfInBounds_toArray, List.set_cons_zero, List.set_cons_succ]
  refine Rg.Upto.takeA (i := 11) (v := ?_) rfl (by kernel_rfl) (by kernel_rfl) (by kernel_rfl) (of_decide_eq_true (by kernel_rfl)) (fun _ _ _ h => h) (by rfl) (fun w5 hS5 => ?_) HSC ?_
  rotate_left
  · clear hS5
    go_simp
    try rfl
  try simp only [Act.put, List.setIfInBounds_toArray, List.set_cons_zero, List.set_cons_succ]
  refine Rg.Upto.takeA (i := 12) (v := ?_) rfl (by kernel_rfl) (by kernel_rfl) (by kernel_rfl) (of_decide_eq_true (by kernel_rfl)) (fun _ _ _ h => h) (by rfl) (fun w5 hS5 => ?_) HSC ?_
  rotate_left
  · have c7 := (Hp.blk_cell hS5 7 rfl).1
    clear hS5
    go_simp
    try rfl
  try simp only [Act.put, List.setIfInBounds_toArray, List.set_cons_zero, List.set_cons_succ]
  refine Rg.Upto.takeA (i := 14) (v := ?_) rfl (by kernel_rfl) (by kernel_rfl) (by kernel_rfl) (of_decide_eq_true (by kernel_rfl)) (fun _ _ _ h => h) (by rfl) (fun w5 hS5 => ?_) HSC ?_
  rotate_left
  · clear hS5
    go_simp
    try rfl
  try simp only [Act.put, List.setIfInBounds_toArray, List.set_cons_zero, List.set_cons_succ]
  refine Rg.Upto.takeA (i := 15) (v := ?_) rfl (by kernel_rfl) (by kernel_rfl) (by kernel_rfl) (of_decide_eq_true (by kernel_rfl)) (fun _ _ _ h => h) (by rfl) (fun w5 hS5 => ?_) HSC ?_
  rotate_left
  · clear hS5
    go_simp
    try rfl
  try simp only [Act.put, List.setIfInBounds_toArray, List.set_cons_zero, List.set_cons_succ]
  refine Rg.Upto.takeA (i := 16) (v := ?_) rfl (by kernel_rfl) (by kernel_rfl) (by kernel_rfl) (of_decide_eq_true (by kernel_rfl)) (fun _ _ _ h => h) (by rfl) (fun w5 hS5 => ?_) HSC ?_
  rotate_left
  · clear hS5
    go_simp
    try rfl
  try simp only [Act.put, List.setIfInBounds_toArray, List.set_cons_zero, List.set_cons_succ]
  refine Rg.Upto.takeA (i := 17) (v := ?_) rfl (by kernel_rfl) (by kernel_rfl) (by kernel_rfl) (of_decide_eq_true (by kernel_rfl)) (fun _ _ _ h => h) (by rfl) (fun w5 hS5 => ?_) HSC ?_
  rotate_left
  · have c4 := (Hp.blk_cell hS5 4 rfl).1
    clear hS5
    go_simp
    try rfl
  try simp only [Act.put, List.setIfInBounds_toArray, List.set_cons_zero, List.set_cons_succ]
  refine Rg.Upto.one (i := 13) rfl (by kernel_rfl) (by rfl) (fun KK hK => ?_)
  go_simp
  refine (layout_Plan_Slot.calls P T R t tl q _ HQ.out).mono ?_
  rintro e w3 ⟨rfl, hb⟩
  have HP := Lib.hid (blk_below HP1.out hb)
  clear HP1 HSC
  replace HB := Lib.hid (HB.out.trans (hb.mono HS.out.base.1))
  replace HS := Lib.hid (HS.out.below hb)
  replace HF := Lib.hid (HF.out.below hb)
  refine hK.out _ _ HP.out ?_
  clear hK KK hb
  try simp only [Act.put, List.setIfInBounds_toArray, List.set_cons_zero, List.set_cons_succ]
  refine Rg.Upto.one (i := 18) rfl (by kernel_rfl) (by rfl) (fun KK hK => ?_)
  go_simp
  have hm := HS.out.store i q v HI.out HL.out
  refine hm.mono ?_
  clear hm
  rintro e w4 ⟨rfl, hD⟩
  have HP1 := Lib.hid (hD.fr.blk HP.out (not_touch HP.out (blk_ne HP.out (sys_cel HS.out) (by decide)) (by decide)))
  have hF2 := HF.out.then hD.fr (touch_back HF.out)
  replace HB := Lib.hid (HB.out.trans hD.bel)
  clear HF HS HP
  have HF := Lib.hid hF2
  have HS := Lib.hid hD.sys
  refine hK.out _ _ HP1.out ?_
  clear hK KK hD hF2
  try simp only [Act.put, List.setIfInBounds_toArray, List.set_cons_zero, List.set_cons_succ]
  refine Rg.Upto.done (by kernel_rfl) ?_
  obtain ⟨c5, d5⟩ := Hp.blk_cell HP1.out 5 rfl
  go_wp2_with (fail)
  go_ret
  have hnt := not_touch HP1.out (blk_ne HP1.out (sys_cel HS.out) (by decide)) (by decide)
  exact ⟨rfl, Hp.blk_set HP1.out 5 _, HS.out.fr ((Fr.refl (fun k => k = m) w4).setCell ⟨m, 5, none⟩ (.int .i64 3) (.inl rfl)) (fun k _ e => by subst e; exact hnt), HB.out.setCell (p := ⟨m, 5, none⟩) HBm.out _, HF.out.setCell ⟨m, 5, none⟩ _ (.inl (.inl rfl))⟩

set_option maxHeartbeats 2000000 in
set_option maxRecDepth 100000 in
theorem push_step3 {B : Nat} {w : World} {a c p : Nat} {s : AS} {who : Int} {ps : List (Nat × Int × Bool)} {P T R t v hd tl : Int} {fl : Bool} {q : Int} (hs : Sys B w a c s ps) (i : Nat) (hi : ps[i]? = some (p, who, true)) (m : Nat) (h : IsPush w m ⟨P, T, R, t, v, 3, hd, tl, fl⟩) (hB : B ≤ m) (hq : layout_Plan_Tail.f P T R t = some q) (hl : s.log.length ≤ 1000000) :
    Calls Try.prog 24 #[.pointer (some ⟨m, 0, none⟩), .pointer (some ⟨p, 0, none⟩)] w fun e w' => e = .returned (.bool true) ∧ IsPush w' m ⟨P, T, R, t, v, 4, hd, tl, fl⟩ ∧ Sys B w' a c (s.acc true who 2 q 0 (IntKind.u64.wrap (tl + 1))).1 (ps.set i (p, who, false)) ∧ Below B w w' ∧ Fr (fun k => k = m ∨ Touch c w k) w w' := by
  have h' : w.heap[m]? = some (.cells #[.int .i64 P, .int .i64 T, .int .i64 R, .int .i64 t, .int .u64 v, .int .i64 3, .int .u64 hd, .int .u64 tl, .bool fl] 97 (0, 0)) := h
  have HO := Lib.hid (hs.open_ i hi)
  have HS := Lib.hid hs
  have HQ := Lib.hid hq
  have HI := Lib.hid hi
  have HL := Lib.hid hl
  obtain ⟨c5, -⟩ := Hp.blk_cell h' 5 rfl
  have HP := Lib.hid h'
  have HB := Lib.hid (Below.refl B w)
  have HF := Lib.hid (Fr.refl (fun k => k = m ∨ Touch c w k) w)
  have HBm := Lib.hid hB
  clear hs hi h h' hq hl hB
  go_enter Try.func24, Try.ntmps24
  go_upto_region 16 with (first | (go_at_call 50; (refine HO.out.mono ?_; clear HO; rintro e w2 ⟨rfl, rfl⟩)))
  clear c5
  replace HS := Lib.hid (HS.out.still ((Fr.refl _ _).drew))
  replace HB := Lib.hid HB.out.drew
  replace HF := Lib.hid HF.out.drew
  have HP1 : Hid (w2.drew.heap[m]? = some (.cells #[.int .i64 P, .int .i64 T, .int .i64 R, .int .i64 t, .int .u64 v, .int .i64 3, .int .u64 hd, .int .u64 tl, .bool fl] 97 (0, 0))) := Lib.hid HP.out
  clear HP
  refine Rg.Upto.start (fun w' => w'.heap[m]? = some (.cells #[.int .i64 P, .int .i64 T, .int .i64 R, .int .i64 t, .int .u64 v, .int .i64 3, .int .u64 hd, .int .u64 tl, .bool fl] 97 (0, 0))) 1000 (by kernel_rfl) HP1.out (fun HS0 => ?_)
  have HSC := HS0
  clear HS0
  refine Rg.Upto.takeA (i := 0) (v := ?_) rfl (by kernel_rfl) (by kernel_rfl) (by kernel_rfl) (of_decide_eq_true (by kernel_rfl)) (fun _ _ _ h => h) (by rfl) (fun w5 hS5 => ?_) HSC ?_
  rotate_left
  · clear hS5
    go_simp
    try rfl
  try simp only [Act.put, List.setIfInBounds_toArray, List.set_cons_zero, List.set_cons_succ]
  refine Rg.Upto.takeA (i := 1) (v := ?_) rfl (by kernel_rfl) (by kernel_rfl) (by kernel_rfl) (of_decide_eq_true (by kernel_rfl)) (fun _ _ _ h => h) (by rfl) (fun w5 hS5 => ?_) HSC ?_
  rotate_left
  · clear hS5
    go_simp
    try rfl
  try simp only [Act.put, List.setIfInBounds_toArray, List.set_cons_zero, List.set_cons_succ]
  refine Rg.Upto.takeA (i := 2) (v := ?_) rfl (by kernel_rfl) (by kernel_rfl) (by kernel_rfl) (of_decide_eq_true (by kernel_rfl)) (fun _ _ _ h => h) (by rfl) (fun w5 hS5 => ?_) HSC ?_
  rotate_left
  · clear hS5
    go_simp
    try rfl
  try simp only [Act.put, List.setIfInBounds_toArray, List.set_cons_zero, List.set_cons_succ]
  refine Rg.Upto.takeA (i := 3) (v := ?_) rfl (by kernel_rfl) (by kernel_rfl) (by kernel_rfl) (of_decide_eq_true (by kernel_rfl)) (fun _ _ _ h => h) (by rfl) (fun w5 hS5 => ?_) HSC ?_
  rotate_left
  · clear hS5
    go_simp
    try rfl
  try simp only [Act.put, List.setIfInBounds_toArray, List.set_cons_zero, List.set_cons_succ]
  refine Rg.Upto.takeA (i := 4) (v := ?_) rfl (by kernel_rfl) (by kernel_rfl) (by kernel_rfl) (of_decide_eq_true (by kernel_rfl)) (fun _ _ _ h => h) (by rfl) (fun w5 hS5 => ?_) HSC ?_
  rotate_left
  · have c0 := (Hp.blk_cell hS5 0 rfl).1
    have c1 := (Hp.blk_cell hS5 1 rfl).1
    have c2 := (Hp.blk_cell hS5 2 rfl).1
    clear hS5
    go_simp
    try rfl
  try simp only [Act.put, List.setIfInBounds_toArray, List.set_cons_zero, List.set_cons_succ]
  refine Rg.Upto.takeA (i := 5) (v := ?_) rfl (by kernel_rfl) (by kernel_rfl) (by kernel_rfl) (of_decide_eq_true (by kernel_rfl)) (fun _ _ _ h => h) (by rfl) (fun w5 hS5 => ?_) HSC ?_
  rotate_left
  · clear hS5
    go_simp
    try rfl
  try simp only [Act.put, List.setIfInBounds_toArray, List.set_cons_zero, List.set_cons_succ]
  refine Rg.Upto.takeA (i := 6) (v := ?_) rfl (by kernel_rfl) (by kernel_rfl) (by kernel_rfl) (of_decide_eq_true (by kernel_rfl)) (fun _ _ _ h => h) (by rfl) (fun w5 hS5 => ?_) HSC ?_
  rotate_left
  · clear hS5
    go_simp
    try rfl
  try simp only [Act.put, List.setIfInBounds_toArray, List.set_cons_zero, List.set_cons_succ]
  refine Rg.Upto.takeA (i := 7) (v := ?_) rfl (by kernel_rfl) (by kernel_rfl) (by kernel_rfl) (of_decide_eq_true (by kernel_rfl)) (fun _ _ _ h => h) (by rfl) (fun w5 hS5 => ?_) HSC ?_
  rotate_left
  · clear hS5
    go_simp
    try rfl
  try simp only [Act.put, List.setIfInBounds_toArray, List.set_cons_zero, List.set_cons_succ]
  refine Rg.Upto.takeA (i := 8) (v := ?_) rfl (by kernel_rfl) (by kernel_rfl) (by kernel_rfl) (of_decide_eq_true (by kernel_rfl)) (fun _ _ _ h => h) (by rfl) (fun w5 hS5 => ?_) HSC ?_
  rotate_left
  · have c3 := (Hp.blk_cell hS5 3 rfl).1
    clear hS5
    go_simp
    try rfl
  try simp only [Act.put, List.setIfInBounds_toArray, List.set_cons_zero, List.set_cons_succ]
  refine Rg.Upto.takeA (i := 10) (v := ?_) rfl (by kernel_rfl) (by kernel_rfl) (by kernel_rfl) (of_decide_eq_true (by kernel_rfl)) (fun _ _ _ h => h) (by rfl) (fun w5 hS5 => ?_) HSC ?_
  rotate_left
  · clear hS5
    go_simp
    try rfl
  try simp only [Act.put, List.setIfInBounds_toArray, List.set_cons_zero, List.set_cons_succ]
  refine Rg.Upto.takeA (i := 11) (v := ?_) rfl (by kernel_rfl) (by kernel_rfl) (by kernel_rfl) (of_decide_eq_true (by kernel_rfl)) (fun _ _ _ h => h) (by rfl) (fun w5 hS5 => ?_) HSC ?_
  rotate_left
  · clear hS5
    go_simp
    try rfl
  try simp only [Act.put, List.setIfInBounds_toArray, List.set_cons_zero, List.set_cons_succ]
  refine Rg.Upto.takeA (i := 12) (v := ?_) rfl (by kernel_rfl) (by kernel_rfl) (by kernel_rfl) (of_decide_eq_true (by kernel_rfl)) (fun _ _ _ h => h) (by rfl) (fun w5 hS5 => ?_) HSC ?_
  rotate_left
  · clear hS5
    go_simp
    try rfl
  try simp only [Act.put, List.setIfInBounds_toArray, List.set_cons_zero, List.set_cons_succ]
  refine Rg.Upto.takeA (i := 13) (v := ?_) rfl (by kernel_rfl) (by kernel_rfl) (by kernel_rfl) (of_decide_eq_true (by kernel_rfl)) (fun _ _ _ h => h) (by rfl) (fun w5 hS5 => ?_) HSC ?_
  rotate_left
  · have c7 := (Hp.blk_cell hS5 7 rfl).1
    clear hS5
    go_simp
    try rfl
  try simp only [Act.put, List.setIfInBounds_toArray, List.set_cons_zero, List.set_cons_succ]
  refine Rg.Upto.takeA (i := 14) (v := ?_) rfl (by kernel_rfl) (by kernel_rfl) (by kernel_rfl) (of_decide_eq_true (by kernel_rfl)) (fun _ _ _ h => h) (by rfl) (fun w5 hS5 => ?_) HSC ?_
  rotate_left
  · clear hS5
    go_simp
    try rfl
  try simp only [Act.put, List.setIfInBounds_toArray, List.set_cons_zero, List.set_cons_succ]
  refine Rg.Upto.one (i := 9) rfl (by kernel_rfl) (by rfl) (fun KK hK => ?_)
  go_simp
  refine (layout_Plan_Tail.calls P T R t q _ HQ.out).mono ?_
  rintro e w3 ⟨rfl, hb⟩
  have HP := Lib.hid (blk_below HP1.out hb)
  clear HP1 HSC
  replace HB := Lib.hid (HB.out.trans (hb.mono HS.out.base.1))
  replace HS := Lib.hid (HS.out.below hb)
  replace HF := Lib.hid (HF.out.below hb)
  refine hK.out _ _ HP.out ?_
  clear hK KK hb
  try simp only [Act.put, List.setIfInBounds_toArray, List.set_cons_zero, List.set_cons_succ]
  refine Rg.Upto.one (i := 15) rfl (by kernel_rfl) (by rfl) (fun KK hK => ?_)
  go_simp
  have hm := HS.out.store i q (IntKind.u64.wrap (tl + 1)) HI.out HL.out
  refine hm.mono ?_
  clear hm
  rintro e w4 ⟨rfl, hD⟩
  have HP1 := Lib.hid (hD.fr.blk HP.out (not_touch HP.out (blk_ne HP.out (sys_cel HS.out) (by decide)) (by decide)))
  have hF2 := HF.out.then hD.fr (touch_back HF.out)
  replace HB := Lib.hid (HB.out.trans hD.bel)
  clear HF HS HP
  have HF := Lib.hid hF2
  have HS := Lib.hid hD.sys
  refine hK.out _ _ HP1.out ?_
  clear hK KK hD hF2
  try simp only [Act.put, List.setIfInBounds_toArray, List.set_cons_zero, List.set_cons_succ]
  refine Rg.Upto.done (by kernel_rfl) ?_
  obtain ⟨c5, d5⟩ := Hp.blk_cell HP1.out 5 rfl
  go_wp2_with (fail)
  go_ret
  have hnt := not_touch HP1.out (blk_ne HP1.out (sys_cel HS.out) (by decide)) (by decide)
  exact ⟨rfl, Hp.blk_set HP1.out 5 _, HS.out.fr ((Fr.refl (fun k => k = m) w4).setCell ⟨m, 5, none⟩ (.int .i64 4) (.inl rfl)) (fun k _ e => by subst e; exact hnt), HB.out.setCell (p := ⟨m, 5, none⟩) HBm.out _, HF.out.setCell ⟨m, 5, none⟩ _ (.inl (.inl rfl))⟩
end Go.Proofs.Ytdcikbhfoplkmaa.Ar

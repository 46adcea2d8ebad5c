/- one: a call of the program's arena, and of the chapter's. -/
import Derived.Test.YtneppenmhbjfkaaDuo
import Derived.Test.YtneppenmhbjfkaaLw
import Derived.StillTailTactics
namespace Go.Proofs.Ytneppenmhbjfkaa.Ar
open Go Go.RowKit Go.Proofs.Ytneppenmhbjfkaa.Hp
set_option linter.unusedVariables false
set_option linter.unusedSimpArgs false

/-- What the two hold is the same; the program's keeps its log, or doesn't. -/
structure Rel (K : Bool) (s t : AS) : Prop where
  cells : s.cells = t.cells
  faults : s.faults = t.faults
  count : s.count = t.log.length
  sk : s.keep = K
  tk : t.keep = true
  log : s.log = if K = true then t.log else []
theorem Rel.acc {K : Bool} {s t : AS} (h : Rel K s t) (hl : t.log.length ≤ 1000000) (g : Bool) (who kind at_ want put : Int) :
    (t.acc g who kind at_ want put).2 = (s.acc g who kind at_ want put).2 ∧ Rel K (s.acc g who kind at_ want put).1 (t.acc g who kind at_ want put).1 := by
  obtain ⟨h1, h2, h3, h4, h5, h6⟩ := h
  unfold AS.acc
  have e : s.has at_ = t.has at_ := by unfold AS.has; rw [h1]
  rw [e, h1]
  by_cases hc : g = true ∧ t.has at_ = true
  · rw [if_pos hc, if_pos hc]
    refine ⟨rfl, ⟨by simp [AS.done, h1], h2, ?_, h4, h5, ?_⟩⟩
    · simp only [AS.done, h5, if_true, List.length_append, h3]
      unfold wrap64
      simp
      omega
    · simp only [AS.done, h5, if_true, h4, h6]
      cases K <;> simp
  · rw [if_neg hc, if_neg hc]
    exact ⟨rfl, ⟨h1, by simp [AS.fault, h2], h3, h4, h5, h6⟩⟩
theorem acc_len (t : AS) (g : Bool) (who kind at_ want put : Int) : (t.acc g who kind at_ want put).1.log.length ≤ t.log.length + 1 := by
  unfold AS.acc
  split
  · simp only [AS.done]
    split <;> simp
  · simp [AS.fault]
theorem acc_made (t : AS) (ht : t.keep = true) (g : Bool) (who kind at_ want put : Int) : (t.acc g who kind at_ want put).1.log.length = if g = true ∧ t.has at_ = true then t.log.length + 1 else t.log.length := by
  unfold AS.acc
  split
  · simp [AS.done, ht]
  · simp [AS.fault]

section
variable {B : Nat} {w w1 w2 : World} {a c m c2 : Nat} {s s' t t' : AS} {ps qs ps' qs' : List (Nat × Int × Bool)}
theorem TouchD.back (h : Fr (TouchD c c2 w) w w1) {k : Nat} (hk : k < w.heap.size) (ht : TouchD c c2 w1 k) : TouchD c c2 w k := by
  by_cases hn : TouchD c c2 w k
  · exact hn
  · rcases ht with e | e | ⟨cs, t, f, h', h2⟩
    · exact .inl e
    · exact .inr (.inl e)
    · rw [h.block k hk hn] at h'
      exact .inr (.inr ⟨cs, t, f, h', h2⟩)
theorem DidD.trans (h1 : DidD B w w1 a c s ps m c2 t qs) (h2 : DidD B w1 w2 a c s' ps' m c2 t' qs') : DidD B w w2 a c s' ps' m c2 t' qs' :=
  ⟨h2.duo, h1.bel.trans h2.bel, h1.fr.then h2.fr fun k hk z => TouchD.back h1.fr hk z⟩
theorem Duo.start (h : Duo B w a c s ps m c2 t qs) (o : Obj) : DidD B w (w.alloc o) a c s ps m c2 t qs :=
  ⟨h.alloc o, (Below.refl _ w).alloc h.base.1 o, (Fr.refl _ w).alloc o⟩
theorem DidD.drew (h : DidD B w w1 a c s ps m c2 t qs) : DidD B w w1.drew a c s ps m c2 t qs := ⟨h.duo.drew, h.bel.drew, h.fr.drew⟩
theorem DidD.drewN (h : DidD B w w1 a c s ps m c2 t qs) (n : Nat) : DidD B w (w1.drewN n) a c s ps m c2 t qs := ⟨h.duo.drewN n, ⟨h.bel.os, h.bel.tape, h.bel.output, h.bel.size, h.bel.block⟩, h.fr.drewN n⟩
theorem drewN_blk {w : World} {k : Nat} {o : Obj} (h : w.heap[k]? = some o) (n : Nat) : (w.drewN n).heap[k]? = some o := h
theorem Rel.poke {K : Bool} {s t : AS} (h : Rel K s t) (at_ v : Int) : Rel K (s.poked at_ v) (t.poked at_ v) := by
  obtain ⟨h1, h2, h3, h4, h5, h6⟩ := h
  exact ⟨by simp [AS.poked, h1], h2, h3, h4, h5, h6⟩
theorem set_get {ps : List (Nat × Int × Bool)} {i : Nat} {x y : Nat × Int × Bool} (h : ps[i]? = some x) : (ps.set i y)[i]? = some y := by
  have := (List.getElem?_eq_some_iff.1 h).1
  simp [this]
theorem set_same {ps : List (Nat × Int × Bool)} {i : Nat} {x : Nat × Int × Bool} (h : ps[i]? = some x) : ps.set i x = ps := by
  obtain ⟨hi, rfl⟩ := List.getElem?_eq_some_iff.1 h
  exact List.set_getElem_self hi
end

theorem ofacts {w : World} {X : Nat} {x0 x1 x2 x3 x4 : Int} (h : w.heap[X]? = some (.cells #[.int .i64 x0, .int .i64 x1, .int .i64 x2, .int .u64 x3, .int .u64 x4] 25 (0, 0))) :
    w.cell? ⟨X, 2, none⟩ = some (.int .i64 x2) ∧ w.cell? ⟨X, 3, none⟩ = some (.int .u64 x3) ∧ w.cell? ⟨X, 4, none⟩ = some (.int .u64 x4) := ⟨(Hp.blk_cell h 2 rfl).1, (Hp.blk_cell h 3 rfl).1, (Hp.blk_cell h 4 rfl).1⟩

theorem mlog {B : Nat} {w : World} {a c m c2 : Nat} {s t : AS} {ps qs : List (Nat × Int × Bool)} (h : Duo B w a c s ps m c2 t qs) : ∃ A cap, w.cell? ⟨m, 1, none⟩ = some (.slice A t.log.length cap) := by
  obtain ⟨lv, lv2, hA, hM, hd⟩ := h.both
  have hc := (Hp.blk_cell hM.blk 1 (v := lv2) rfl).1
  rcases hM.log.2 with ⟨rfl, h2⟩ | ⟨g, cap, cur, rfl, _⟩
  · exact ⟨none, 0, by rw [h2]; exact hc⟩
  · exact ⟨_, _, hc⟩
theorem mcell {B : Nat} {w : World} {a c m c2 : Nat} {s t : AS} {ps qs : List (Nat × Int × Bool)} (h : Duo B w a c s ps m c2 t qs) : w.cell? ⟨m, 0, none⟩ = some (.slice (some ⟨c2, 0, none⟩) t.cells.length t.cells.length) ∧
    ∀ i, i < t.cells.length → w.cell? ⟨c2, i, none⟩ = some (.int .u64 (t.cells.getD i 0)) ∧ w.frozen? ⟨c2, i, none⟩ = false := by
  obtain ⟨lv, lv2, hA, hM, hd⟩ := h.both
  refine ⟨(Hp.blk_cell hM.blk 0 rfl).1, fun i hi => Hp.blk_cell hM.cel i ?_⟩
  simp [List.getD_eq_getElem?_getD, hi]
theorem qfacts {B : Nat} {w : World} {a c m c2 : Nat} {s t : AS} {ps qs : List (Nat × Int × Bool)} {i q : Nat} {who : Int} {g : Bool} (h : Duo B w a c s ps m c2 t qs) (hi : qs[i]? = some (q, who, g)) : w.cell? ⟨q, 0, none⟩ = some (.int .i64 who) ∧ w.cell? ⟨q, 1, none⟩ = some (.bool g) := by
  have hQ := (h.qt _ (List.mem_of_getElem? hi)).1
  exact ⟨(Hp.blk_cell hQ 0 rfl).1, (Hp.blk_cell hQ 1 rfl).1⟩
theorem qfree {B : Nat} {w : World} {a c m c2 : Nat} {s t : AS} {ps qs : List (Nat × Int × Bool)} {i q : Nat} {who : Int} {g : Bool} (h : Duo B w a c s ps m c2 t qs) (hi : qs[i]? = some (q, who, g)) : w.frozen? ⟨q, 1, none⟩ = false := by
  have hQ := (h.qt _ (List.mem_of_getElem? hi)).1
  exact (Hp.blk_cell hQ 1 (v := .bool g) rfl).2

/-- What a call of both leaves. -/
def OnePost (K : Bool) (B : Nat) (w : World) (a c i p q : Nat) (who : Int) (ps : List (Nat × Int × Bool)) (m c2 : Nat) (t : AS) (qs : List (Nat × Int × Bool)) (e : Ending) (w' : World) : Prop :=
  e = .returned (.bool true) ∧ ∃ s' t' g', DidD B w w' a c s' (ps.set i (p, who, g')) m c2 t' (qs.set i (q, who, g')) ∧ Rel K s' t' ∧ t'.log.length ≤ t.log.length + 1

set_option maxHeartbeats 8000000 in
set_option maxRecDepth 100000 in
theorem one1 (K : Bool) (B : Nat) (w : World) (a c m c2 i p q : Nat) (s t : AS) (ps qs : List (Nat × Int × Bool)) (who : Int) (g : Bool) (o0 o2 o3 o4 : Int) (h : Duo B w a c s ps m c2 t qs) (hi : ps[i]? = some (p, who, g)) (hj : qs[i]? = some (q, who, g)) (hR : Rel K s t) (hl : t.log.length ≤ 1000) :
    Calls Try.prog 30 #[.pointer (some ⟨a, 0, none⟩), .pointer (some ⟨p, 0, none⟩), .pointer (some ⟨m, 0, none⟩), .pointer (some ⟨q, 0, none⟩), .agg #[.int .i64 o0, .int .i64 1, .int .i64 o2, .int .u64 o3, .int .u64 o4]] w (OnePost K B w a c i p q who ps m c2 t qs) := by
  have hsl : s.log.length ≤ 1000 := by rw [hR.log]; split <;> simp [hl]
  have HI := Lib.hid hi
  have HJ := Lib.hid hj
  have HRL := Lib.hid hR
  obtain ⟨hwc, hwc2⟩ : w.heap.size ≠ c ∧ w.heap.size ≠ c2 := by
    obtain ⟨lv, lv2, hA, hM, _⟩ := h.both
    have := blk_lt hA.cel
    have := blk_lt hM.cel
    omega
  have HD := Lib.hid (h.start (.cells #[.int .i64 o0, .int .i64 1, .int .i64 o2, .int .u64 o3, .int .u64 o4] 25))
  have HO := Lib.hid (Hp.blk_new w (.cells #[.int .i64 o0, .int .i64 1, .int .i64 o2, .int .u64 o3, .int .u64 o4] 25))
  have hNT : ¬ TouchD c c2 (w.alloc (.cells #[.int .i64 o0, .int .i64 1, .int .i64 o2, .int .u64 o3, .int .u64 o4] 25)) w.heap.size := not_touchD HO.out ⟨hwc, hwc2⟩ (by decide)
  clear h hi hj hR

  have hacc := HRL.out.acc (by omega) g who 1 o2 0 0
  have HEQ := Lib.hid hacc.1
  have HRN := Lib.hid hacc.2
  clear hacc
  go_enter Try.func30, Try.ntmps30
  go_upto_region 3 with (fail)
  replace HD := Lib.hid HD.out.drew
  replace HO := Lib.hid (drew_blk HO.out)
  refine Rg.Upto.start (fun w' => w'.cell? ⟨w.heap.size, 2, none⟩ = some (.int .i64 o2) ∧ w'.cell? ⟨w.heap.size, 3, none⟩ = some (.int .u64 o3) ∧ w'.cell? ⟨w.heap.size, 4, none⟩ = some (.int .u64 o4)) 10 (by kernel_rfl) (ofacts HO.out) (fun HS => ?_)
  refine Rg.Upto.take (i := 0) (v := ?_) rfl (by kernel_rfl) (by kernel_rfl) (by kernel_rfl) (by kernel_rfl) (fun _ _ _ h => h) (by rfl) (fun w5 hS5 => ?_) HS ?_
  rotate_left
  · obtain ⟨s2, s3, s4⟩ := hS5
    go_simp
    try rfl
  try simp only [Act.put, List.setIfInBounds_toArray, List.set_cons_zero, List.set_cons_succ]
  refine Rg.Upto.take (i := 1) (v := ?_) rfl (by kernel_rfl) (by kernel_rfl) (by kernel_rfl) (by kernel_rfl) (fun _ _ _ h => h) (by rfl) (fun w5 hS5 => ?_) HS ?_
  rotate_left
  · obtain ⟨s2, s3, s4⟩ := hS5
    go_simp
    try rfl
  try simp only [Act.put, List.setIfInBounds_toArray, List.set_cons_zero, List.set_cons_succ]
  refine Rg.Upto.take (i := 2) (v := ?_) rfl (by kernel_rfl) (by kernel_rfl) (by kernel_rfl) (by kernel_rfl) (fun _ _ _ h => h) (by rfl) (fun w5 hS5 => ?_) HS ?_
  rotate_left
  · obtain ⟨s2, s3, s4⟩ := hS5
    go_simp
    try rfl
  try simp only [Act.put, List.setIfInBounds_toArray, List.set_cons_zero, List.set_cons_succ]
  refine Rg.Upto.take (i := 4) (v := ?_) rfl (by kernel_rfl) (by kernel_rfl) (by kernel_rfl) (by kernel_rfl) (fun _ _ _ h => h) (by rfl) (fun w5 hS5 => ?_) HS ?_
  rotate_left
  · obtain ⟨s2, s3, s4⟩ := hS5
    go_simp
    try rfl
  try simp only [Act.put, List.setIfInBounds_toArray, List.set_cons_zero, List.set_cons_succ]
  refine Rg.Upto.take (i := 5) (v := ?_) rfl (by kernel_rfl) (by kernel_rfl) (by kernel_rfl) (by kernel_rfl) (fun _ _ _ h => h) (by rfl) (fun w5 hS5 => ?_) HS ?_
  rotate_left
  · obtain ⟨s2, s3, s4⟩ := hS5
    go_simp
    try rfl
  try simp only [Act.put, List.setIfInBounds_toArray, List.set_cons_zero, List.set_cons_succ]
  refine Rg.Upto.take (i := 6) (v := ?_) rfl (by kernel_rfl) (by kernel_rfl) (by kernel_rfl) (by kernel_rfl) (fun _ _ _ h => h) (by rfl) (fun w5 hS5 => ?_) HS ?_
  rotate_left
  · obtain ⟨s2, s3, s4⟩ := hS5
    go_simp
    try rfl
  try simp only [Act.put, List.setIfInBounds_toArray, List.set_cons_zero, List.set_cons_succ]
  refine Rg.Upto.take (i := 7) (v := ?_) rfl (by kernel_rfl) (by kernel_rfl) (by kernel_rfl) (by kernel_rfl) (fun _ _ _ h => h) (by rfl) (fun w5 hS5 => ?_) HS ?_
  rotate_left
  · obtain ⟨s2, s3, s4⟩ := hS5
    go_simp
    try rfl
  try simp only [Act.put, List.setIfInBounds_toArray, List.set_cons_zero, List.set_cons_succ]
  refine Rg.Upto.one (i := 3) rfl (by kernel_rfl) (by rfl) (fun K hK => ?_)
  go_simp
  refine (HD.out.duo.load i o2 HI.out (by omega)).mono ?_
  rintro e w5 ⟨rfl, hD⟩
  have HO5 := Lib.hid ((hD.fr.block _ (blk_lt HO.out) (not_touchD HO.out ⟨hwc, hwc2⟩ (by decide))).trans HO.out)
  replace HO := HO5
  replace HD := Lib.hid (HD.out.trans hD)
  clear hD
  have HSC := ofacts HO.out
  refine hK.out _ _ HSC ?_
  clear hK K
  try simp only [Act.put, List.setIfInBounds_toArray, List.set_cons_zero, List.set_cons_succ]
  refine Rg.Upto.one (i := 8) rfl (by kernel_rfl) (by rfl) (fun K hK => ?_)
  have hm2 := HD.out.duo.do_ i 1 o2 0 0 HJ.out (by omega) (by decide) (by decide)
  rw [HEQ.out] at hm2
  go_simp
  refine (hm2).mono ?_
  rintro e w6 ⟨rfl, hD⟩
  have HO5 := Lib.hid ((hD.fr.block _ (blk_lt HO.out) (not_touchD HO.out ⟨hwc, hwc2⟩ (by decide))).trans HO.out)
  replace HO := HO5
  replace HD := Lib.hid (HD.out.trans hD)
  clear hD
  have HSC := ofacts HO.out
  refine hK.out _ _ HSC ?_
  clear hm2
  clear hK K
  try simp only [Act.put, List.setIfInBounds_toArray, List.set_cons_zero, List.set_cons_succ]
  refine Rg.Upto.one (i := 9) rfl (by kernel_rfl) (by rfl) (fun K hK => ?_)
  go_simp
  refine hK.out _ _ HSC ?_
  clear hK K
  try simp only [Act.put, List.setIfInBounds_toArray, List.set_cons_zero, List.set_cons_succ]
  refine Rg.Upto.last rfl (by kernel_rfl) (by kernel_rfl) (by rfl) (fun K hK => ?_)
  go_simp
  refine hK.out _ _ ?_
  clear hK K
  go_wp2
  go_ret
  exact ⟨rfl, _, _, false, HD.out, HRN.out, acc_len _ _ _ _ _ _ _⟩

set_option maxHeartbeats 8000000 in
set_option maxRecDepth 100000 in
theorem one3 (K : Bool) (B : Nat) (w : World) (a c m c2 i p q : Nat) (s t : AS) (ps qs : List (Nat × Int × Bool)) (who : Int) (g : Bool) (o0 o2 o3 o4 : Int) (h : Duo B w a c s ps m c2 t qs) (hi : ps[i]? = some (p, who, g)) (hj : qs[i]? = some (q, who, g)) (hR : Rel K s t) (hl : t.log.length ≤ 1000) :
    Calls Try.prog 30 #[.pointer (some ⟨a, 0, none⟩), .pointer (some ⟨p, 0, none⟩), .pointer (some ⟨m, 0, none⟩), .pointer (some ⟨q, 0, none⟩), .agg #[.int .i64 o0, .int .i64 3, .int .i64 o2, .int .u64 o3, .int .u64 o4]] w (OnePost K B w a c i p q who ps m c2 t qs) := by
  have hsl : s.log.length ≤ 1000 := by rw [hR.log]; split <;> simp [hl]
  have HI := Lib.hid hi
  have HJ := Lib.hid hj
  have HRL := Lib.hid hR
  obtain ⟨hwc, hwc2⟩ : w.heap.size ≠ c ∧ w.heap.size ≠ c2 := by
    obtain ⟨lv, lv2, hA, hM, _⟩ := h.both
    have := blk_lt hA.cel
    have := blk_lt hM.cel
    omega
  have HD := Lib.hid (h.start (.cells #[.int .i64 o0, .int .i64 3, .int .i64 o2, .int .u64 o3, .int .u64 o4] 25))
  have HO := Lib.hid (Hp.blk_new w (.cells #[.int .i64 o0, .int .i64 3, .int .i64 o2, .int .u64 o3, .int .u64 o4] 25))
  have hNT : ¬ TouchD c c2 (w.alloc (.cells #[.int .i64 o0, .int .i64 3, .int .i64 o2, .int .u64 o3, .int .u64 o4] 25)) w.heap.size := not_touchD HO.out ⟨hwc, hwc2⟩ (by decide)
  clear h hi hj hR

  have hacc := HRL.out.acc (by omega) g who 3 o2 0 o4
  have HEQ := Lib.hid hacc.1
  have HRN := Lib.hid hacc.2
  clear hacc
  go_enter Try.func30, Try.ntmps30
  go_upto_region 8 with (fail)
  replace HD := Lib.hid HD.out.drew
  replace HO := Lib.hid (drew_blk HO.out)
  refine Rg.Upto.start (fun w' => w'.cell? ⟨w.heap.size, 2, none⟩ = some (.int .i64 o2) ∧ w'.cell? ⟨w.heap.size, 3, none⟩ = some (.int .u64 o3) ∧ w'.cell? ⟨w.heap.size, 4, none⟩ = some (.int .u64 o4)) 14 (by kernel_rfl) (ofacts HO.out) (fun HS => ?_)
  refine Rg.Upto.take (i := 0) (v := ?_) rfl (by kernel_rfl) (by kernel_rfl) (by kernel_rfl) (by kernel_rfl) (fun _ _ _ h => h) (by rfl) (fun w5 hS5 => ?_) HS ?_
  rotate_left
  · obtain ⟨s2, s3, s4⟩ := hS5
    go_simp
    try rfl
  try simp only [Act.put, List.setIfInBounds_toArray, List.set_cons_zero, List.set_cons_succ]
  refine Rg.Upto.take (i := 1) (v := ?_) rfl (by kernel_rfl) (by kernel_rfl) (by kernel_rfl) (by kernel_rfl) (fun _ _ _ h => h) (by rfl) (fun w5 hS5 => ?_) HS ?_
  rotate_left
  · obtain ⟨s2, s3, s4⟩ := hS5
    go_simp
    try rfl
  try simp only [Act.put, List.setIfInBounds_toArray, List.set_cons_zero, List.set_cons_succ]
  refine Rg.Upto.take (i := 2) (v := ?_) rfl (by kernel_rfl) (by kernel_rfl) (by kernel_rfl) (by kernel_rfl) (fun _ _ _ h => h) (by rfl) (fun w5 hS5 => ?_) HS ?_
  rotate_left
  · obtain ⟨s2, s3, s4⟩ := hS5
    go_simp
    try rfl
  try simp only [Act.put, List.setIfInBounds_toArray, List.set_cons_zero, List.set_cons_succ]
  refine Rg.Upto.take (i := 3) (v := ?_) rfl (by kernel_rfl) (by kernel_rfl) (by kernel_rfl) (by kernel_rfl) (fun _ _ _ h => h) (by rfl) (fun w5 hS5 => ?_) HS ?_
  rotate_left
  · obtain ⟨s2, s3, s4⟩ := hS5
    go_simp
    try rfl
  try simp only [Act.put, List.setIfInBounds_toArray, List.set_cons_zero, List.set_cons_succ]
  refine Rg.Upto.take (i := 4) (v := ?_) rfl (by kernel_rfl) (by kernel_rfl) (by kernel_rfl) (by kernel_rfl) (fun _ _ _ h => h) (by rfl) (fun w5 hS5 => ?_) HS ?_
  rotate_left
  · obtain ⟨s2, s3, s4⟩ := hS5
    go_simp
    try rfl
  try simp only [Act.put, List.setIfInBounds_toArray, List.set_cons_zero, List.set_cons_succ]
  refine Rg.Upto.take (i := 6) (v := ?_) rfl (by kernel_rfl) (by kernel_rfl) (by kernel_rfl) (by kernel_rfl) (fun _ _ _ h => h) (by rfl) (fun w5 hS5 => ?_) HS ?_
  rotate_left
  · obtain ⟨s2, s3, s4⟩ := hS5
    go_simp
    try rfl
  try simp only [Act.put, List.setIfInBounds_toArray, List.set_cons_zero, List.set_cons_succ]
  refine Rg.Upto.take (i := 7) (v := ?_) rfl (by kernel_rfl) (by kernel_rfl) (by kernel_rfl) (by kernel_rfl) (fun _ _ _ h => h) (by rfl) (fun w5 hS5 => ?_) HS ?_
  rotate_left
  · obtain ⟨s2, s3, s4⟩ := hS5
    go_simp
    try rfl
  try simp only [Act.put, List.setIfInBounds_toArray, List.set_cons_zero, List.set_cons_succ]
  refine Rg.Upto.take (i := 8) (v := ?_) rfl (by kernel_rfl) (by kernel_rfl) (by kernel_rfl) (by kernel_rfl) (fun _ _ _ h => h) (by rfl) (fun w5 hS5 => ?_) HS ?_
  rotate_left
  · obtain ⟨s2, s3, s4⟩ := hS5
    go_simp
    try rfl
  try simp only [Act.put, List.setIfInBounds_toArray, List.set_cons_zero, List.set_cons_succ]
  refine Rg.Upto.take (i := 9) (v := ?_) rfl (by kernel_rfl) (by kernel_rfl) (by kernel_rfl) (by kernel_rfl) (fun _ _ _ h => h) (by rfl) (fun w5 hS5 => ?_) HS ?_
  rotate_left
  · obtain ⟨s2, s3, s4⟩ := hS5
    go_simp
    try rfl
  try simp only [Act.put, List.setIfInBounds_toArray, List.set_cons_zero, List.set_cons_succ]
  refine Rg.Upto.take (i := 10) (v := ?_) rfl (by kernel_rfl) (by kernel_rfl) (by kernel_rfl) (by kernel_rfl) (fun _ _ _ h => h) (by rfl) (fun w5 hS5 => ?_) HS ?_
  rotate_left
  · obtain ⟨s2, s3, s4⟩ := hS5
    go_simp
    try rfl
  try simp only [Act.put, List.setIfInBounds_toArray, List.set_cons_zero, List.set_cons_succ]
  refine Rg.Upto.take (i := 11) (v := ?_) rfl (by kernel_rfl) (by kernel_rfl) (by kernel_rfl) (by kernel_rfl) (fun _ _ _ h => h) (by rfl) (fun w5 hS5 => ?_) HS ?_
  rotate_left
  · obtain ⟨s2, s3, s4⟩ := hS5
    go_simp
    try rfl
  try simp only [Act.put, List.setIfInBounds_toArray, List.set_cons_zero, List.set_cons_succ]
  refine Rg.Upto.one (i := 5) rfl (by kernel_rfl) (by rfl) (fun K hK => ?_)
  go_simp
  refine (HD.out.duo.swap i o2 o4 HI.out (by omega)).mono ?_
  rintro e w5 ⟨rfl, hD⟩
  have HO5 := Lib.hid ((hD.fr.block _ (blk_lt HO.out) (not_touchD HO.out ⟨hwc, hwc2⟩ (by decide))).trans HO.out)
  replace HO := HO5
  replace HD := Lib.hid (HD.out.trans hD)
  clear hD
  have HSC := ofacts HO.out
  refine hK.out _ _ HSC ?_
  clear hK K
  try simp only [Act.put, List.setIfInBounds_toArray, List.set_cons_zero, List.set_cons_succ]
  refine Rg.Upto.one (i := 12) rfl (by kernel_rfl) (by rfl) (fun K hK => ?_)
  have hm2 := HD.out.duo.do_ i 3 o2 0 o4 HJ.out (by omega) (by decide) (by decide)
  rw [HEQ.out] at hm2
  go_simp
  refine (hm2).mono ?_
  rintro e w6 ⟨rfl, hD⟩
  have HO5 := Lib.hid ((hD.fr.block _ (blk_lt HO.out) (not_touchD HO.out ⟨hwc, hwc2⟩ (by decide))).trans HO.out)
  replace HO := HO5
  replace HD := Lib.hid (HD.out.trans hD)
  clear hD
  have HSC := ofacts HO.out
  refine hK.out _ _ HSC ?_
  clear hm2
  clear hK K
  try simp only [Act.put, List.setIfInBounds_toArray, List.set_cons_zero, List.set_cons_succ]
  refine Rg.Upto.one (i := 13) rfl (by kernel_rfl) (by rfl) (fun K hK => ?_)
  go_simp
  refine hK.out _ _ HSC ?_
  clear hK K
  try simp only [Act.put, List.setIfInBounds_toArray, List.set_cons_zero, List.set_cons_succ]
  refine Rg.Upto.last rfl (by kernel_rfl) (by kernel_rfl) (by rfl) (fun K hK => ?_)
  go_simp
  refine hK.out _ _ ?_
  clear hK K
  go_wp2
  go_ret
  exact ⟨rfl, _, _, false, HD.out, HRN.out, acc_len _ _ _ _ _ _ _⟩

set_option maxHeartbeats 8000000 in
set_option maxRecDepth 100000 in
theorem one5 (K : Bool) (B : Nat) (w : World) (a c m c2 i p q : Nat) (s t : AS) (ps qs : List (Nat × Int × Bool)) (who : Int) (g : Bool) (o0 o2 o3 o4 : Int) (h : Duo B w a c s ps m c2 t qs) (hi : ps[i]? = some (p, who, g)) (hj : qs[i]? = some (q, who, g)) (hR : Rel K s t) (hl : t.log.length ≤ 1000) :
    Calls Try.prog 30 #[.pointer (some ⟨a, 0, none⟩), .pointer (some ⟨p, 0, none⟩), .pointer (some ⟨m, 0, none⟩), .pointer (some ⟨q, 0, none⟩), .agg #[.int .i64 o0, .int .i64 5, .int .i64 o2, .int .u64 o3, .int .u64 o4]] w (OnePost K B w a c i p q who ps m c2 t qs) := by
  have hsl : s.log.length ≤ 1000 := by rw [hR.log]; split <;> simp [hl]
  have HI := Lib.hid hi
  have HJ := Lib.hid hj
  have HRL := Lib.hid hR
  obtain ⟨hwc, hwc2⟩ : w.heap.size ≠ c ∧ w.heap.size ≠ c2 := by
    obtain ⟨lv, lv2, hA, hM, _⟩ := h.both
    have := blk_lt hA.cel
    have := blk_lt hM.cel
    omega
  have HD := Lib.hid (h.start (.cells #[.int .i64 o0, .int .i64 5, .int .i64 o2, .int .u64 o3, .int .u64 o4] 25))
  have HO := Lib.hid (Hp.blk_new w (.cells #[.int .i64 o0, .int .i64 5, .int .i64 o2, .int .u64 o3, .int .u64 o4] 25))
  have hNT : ¬ TouchD c c2 (w.alloc (.cells #[.int .i64 o0, .int .i64 5, .int .i64 o2, .int .u64 o3, .int .u64 o4] 25)) w.heap.size := not_touchD HO.out ⟨hwc, hwc2⟩ (by decide)
  clear h hi hj hR

  have hacc := HRL.out.acc (by omega) g who 5 o2 0 o4
  have HEQ := Lib.hid hacc.1
  have HRN := Lib.hid hacc.2
  clear hacc
  go_enter Try.func30, Try.ntmps30
  go_upto_region 14 with (fail)
  replace HD := Lib.hid HD.out.drew
  replace HO := Lib.hid (drew_blk HO.out)
  refine Rg.Upto.start (fun w' => w'.cell? ⟨w.heap.size, 2, none⟩ = some (.int .i64 o2) ∧ w'.cell? ⟨w.heap.size, 3, none⟩ = some (.int .u64 o3) ∧ w'.cell? ⟨w.heap.size, 4, none⟩ = some (.int .u64 o4)) 14 (by kernel_rfl) (ofacts HO.out) (fun HS => ?_)
  refine Rg.Upto.take (i := 0) (v := ?_) rfl (by kernel_rfl) (by kernel_rfl) (by kernel_rfl) (by kernel_rfl) (fun _ _ _ h => h) (by rfl) (fun w5 hS5 => ?_) HS ?_
  rotate_left
  · obtain ⟨s2, s3, s4⟩ := hS5
    go_simp
    try rfl
  try simp only [Act.put, List.setIfInBounds_toArray, List.set_cons_zero, List.set_cons_succ]
  refine Rg.Upto.take (i := 1) (v := ?_) rfl (by kernel_rfl) (by kernel_rfl) (by kernel_rfl) (by kernel_rfl) (fun _ _ _ h => h) (by rfl) (fun w5 hS5 => ?_) HS ?_
  rotate_left
  · obtain ⟨s2, s3, s4⟩ := hS5
    go_simp
    try rfl
  try simp only [Act.put, List.setIfInBounds_toArray, List.set_cons_zero, List.set_cons_succ]
  refine Rg.Upto.take (i := 2) (v := ?_) rfl (by kernel_rfl) (by kernel_rfl) (by kernel_rfl) (by kernel_rfl) (fun _ _ _ h => h) (by rfl) (fun w5 hS5 => ?_) HS ?_
  rotate_left
  · obtain ⟨s2, s3, s4⟩ := hS5
    go_simp
    try rfl
  try simp only [Act.put, List.setIfInBounds_toArray, List.set_cons_zero, List.set_cons_succ]
  refine Rg.Upto.take (i := 3) (v := ?_) rfl (by kernel_rfl) (by kernel_rfl) (by kernel_rfl) (by kernel_rfl) (fun _ _ _ h => h) (by rfl) (fun w5 hS5 => ?_) HS ?_
  rotate_left
  · obtain ⟨s2, s3, s4⟩ := hS5
    go_simp
    try rfl
  try simp only [Act.put, List.setIfInBounds_toArray, List.set_cons_zero, List.set_cons_succ]
  refine Rg.Upto.take (i := 4) (v := ?_) rfl (by kernel_rfl) (by kernel_rfl) (by kernel_rfl) (by kernel_rfl) (fun _ _ _ h => h) (by rfl) (fun w5 hS5 => ?_) HS ?_
  rotate_left
  · obtain ⟨s2, s3, s4⟩ := hS5
    go_simp
    try rfl
  try simp only [Act.put, List.setIfInBounds_toArray, List.set_cons_zero, List.set_cons_succ]
  refine Rg.Upto.take (i := 6) (v := ?_) rfl (by kernel_rfl) (by kernel_rfl) (by kernel_rfl) (by kernel_rfl) (fun _ _ _ h => h) (by rfl) (fun w5 hS5 => ?_) HS ?_
  rotate_left
  · obtain ⟨s2, s3, s4⟩ := hS5
    go_simp
    try rfl
  try simp only [Act.put, List.setIfInBounds_toArray, List.set_cons_zero, List.set_cons_succ]
  refine Rg.Upto.take (i := 7) (v := ?_) rfl (by kernel_rfl) (by kernel_rfl) (by kernel_rfl) (by kernel_rfl) (fun _ _ _ h => h) (by rfl) (fun w5 hS5 => ?_) HS ?_
  rotate_left
  · obtain ⟨s2, s3, s4⟩ := hS5
    go_simp
    try rfl
  try simp only [Act.put, List.setIfInBounds_toArray, List.set_cons_zero, List.set_cons_succ]
  refine Rg.Upto.take (i := 8) (v := ?_) rfl (by kernel_rfl) (by kernel_rfl) (by kernel_rfl) (by kernel_rfl) (fun _ _ _ h => h) (by rfl) (fun w5 hS5 => ?_) HS ?_
  rotate_left
  · obtain ⟨s2, s3, s4⟩ := hS5
    go_simp
    try rfl
  try simp only [Act.put, List.setIfInBounds_toArray, List.set_cons_zero, List.set_cons_succ]
  refine Rg.Upto.take (i := 9) (v := ?_) rfl (by kernel_rfl) (by kernel_rfl) (by kernel_rfl) (by kernel_rfl) (fun _ _ _ h => h) (by rfl) (fun w5 hS5 => ?_) HS ?_
  rotate_left
  · obtain ⟨s2, s3, s4⟩ := hS5
    go_simp
    try rfl
  try simp only [Act.put, List.setIfInBounds_toArray, List.set_cons_zero, List.set_cons_succ]
  refine Rg.Upto.take (i := 10) (v := ?_) rfl (by kernel_rfl) (by kernel_rfl) (by kernel_rfl) (by kernel_rfl) (fun _ _ _ h => h) (by rfl) (fun w5 hS5 => ?_) HS ?_
  rotate_left
  · obtain ⟨s2, s3, s4⟩ := hS5
    go_simp
    try rfl
  try simp only [Act.put, List.setIfInBounds_toArray, List.set_cons_zero, List.set_cons_succ]
  refine Rg.Upto.take (i := 11) (v := ?_) rfl (by kernel_rfl) (by kernel_rfl) (by kernel_rfl) (by kernel_rfl) (fun _ _ _ h => h) (by rfl) (fun w5 hS5 => ?_) HS ?_
  rotate_left
  · obtain ⟨s2, s3, s4⟩ := hS5
    go_simp
    try rfl
  try simp only [Act.put, List.setIfInBounds_toArray, List.set_cons_zero, List.set_cons_succ]
  refine Rg.Upto.one (i := 5) rfl (by kernel_rfl) (by rfl) (fun K hK => ?_)
  go_simp
  refine (HD.out.duo.or_ i o2 o4 HI.out (by omega)).mono ?_
  rintro e w5 ⟨rfl, hD⟩
  have HO5 := Lib.hid ((hD.fr.block _ (blk_lt HO.out) (not_touchD HO.out ⟨hwc, hwc2⟩ (by decide))).trans HO.out)
  replace HO := HO5
  replace HD := Lib.hid (HD.out.trans hD)
  clear hD
  have HSC := ofacts HO.out
  refine hK.out _ _ HSC ?_
  clear hK K
  try simp only [Act.put, List.setIfInBounds_toArray, List.set_cons_zero, List.set_cons_succ]
  refine Rg.Upto.one (i := 12) rfl (by kernel_rfl) (by rfl) (fun K hK => ?_)
  have hm2 := HD.out.duo.do_ i 5 o2 0 o4 HJ.out (by omega) (by decide) (by decide)
  rw [HEQ.out] at hm2
  go_simp
  refine (hm2).mono ?_
  rintro e w6 ⟨rfl, hD⟩
  have HO5 := Lib.hid ((hD.fr.block _ (blk_lt HO.out) (not_touchD HO.out ⟨hwc, hwc2⟩ (by decide))).trans HO.out)
  replace HO := HO5
  replace HD := Lib.hid (HD.out.trans hD)
  clear hD
  have HSC := ofacts HO.out
  refine hK.out _ _ HSC ?_
  clear hm2
  clear hK K
  try simp only [Act.put, List.setIfInBounds_toArray, List.set_cons_zero, List.set_cons_succ]
  refine Rg.Upto.one (i := 13) rfl (by kernel_rfl) (by rfl) (fun K hK => ?_)
  go_simp
  refine hK.out _ _ HSC ?_
  clear hK K
  try simp only [Act.put, List.setIfInBounds_toArray, List.set_cons_zero, List.set_cons_succ]
  refine Rg.Upto.last rfl (by kernel_rfl) (by kernel_rfl) (by rfl) (fun K hK => ?_)
  go_simp
  refine hK.out _ _ ?_
  clear hK K
  go_wp2
  go_ret
  exact ⟨rfl, _, _, false, HD.out, HRN.out, acc_len _ _ _ _ _ _ _⟩

set_option maxHeartbeats 8000000 in
set_option maxRecDepth 100000 in
theorem one6 (K : Bool) (B : Nat) (w : World) (a c m c2 i p q : Nat) (s t : AS) (ps qs : List (Nat × Int × Bool)) (who : Int) (g : Bool) (o0 o2 o3 o4 : Int) (h : Duo B w a c s ps m c2 t qs) (hi : ps[i]? = some (p, who, g)) (hj : qs[i]? = some (q, who, g)) (hR : Rel K s t) (hl : t.log.length ≤ 1000) :
    Calls Try.prog 30 #[.pointer (some ⟨a, 0, none⟩), .pointer (some ⟨p, 0, none⟩), .pointer (some ⟨m, 0, none⟩), .pointer (some ⟨q, 0, none⟩), .agg #[.int .i64 o0, .int .i64 6, .int .i64 o2, .int .u64 o3, .int .u64 o4]] w (OnePost K B w a c i p q who ps m c2 t qs) := by
  have hsl : s.log.length ≤ 1000 := by rw [hR.log]; split <;> simp [hl]
  have HI := Lib.hid hi
  have HJ := Lib.hid hj
  have HRL := Lib.hid hR
  obtain ⟨hwc, hwc2⟩ : w.heap.size ≠ c ∧ w.heap.size ≠ c2 := by
    obtain ⟨lv, lv2, hA, hM, _⟩ := h.both
    have := blk_lt hA.cel
    have := blk_lt hM.cel
    omega
  have HD := Lib.hid (h.start (.cells #[.int .i64 o0, .int .i64 6, .int .i64 o2, .int .u64 o3, .int .u64 o4] 25))
  have HO := Lib.hid (Hp.blk_new w (.cells #[.int .i64 o0, .int .i64 6, .int .i64 o2, .int .u64 o3, .int .u64 o4] 25))
  have hNT : ¬ TouchD c c2 (w.alloc (.cells #[.int .i64 o0, .int .i64 6, .int .i64 o2, .int .u64 o3, .int .u64 o4] 25)) w.heap.size := not_touchD HO.out ⟨hwc, hwc2⟩ (by decide)
  clear h hi hj hR

  have hacc := HRL.out.acc (by omega) g who 6 o2 0 o4
  have HEQ := Lib.hid hacc.1
  have HRN := Lib.hid hacc.2
  clear hacc
  go_enter Try.func30, Try.ntmps30
  go_upto_region 16 with (fail)
  replace HD := Lib.hid HD.out.drew
  replace HO := Lib.hid (drew_blk HO.out)
  refine Rg.Upto.start (fun w' => w'.cell? ⟨w.heap.size, 2, none⟩ = some (.int .i64 o2) ∧ w'.cell? ⟨w.heap.size, 3, none⟩ = some (.int .u64 o3) ∧ w'.cell? ⟨w.heap.size, 4, none⟩ = some (.int .u64 o4)) 14 (by kernel_rfl) (ofacts HO.out) (fun HS => ?_)
  refine Rg.Upto.take (i := 0) (v := ?_) rfl (by kernel_rfl) (by kernel_rfl) (by kernel_rfl) (by kernel_rfl) (fun _ _ _ h => h) (by rfl) (fun w5 hS5 => ?_) HS ?_
  rotate_left
  · obtain ⟨s2, s3, s4⟩ := hS5
    go_simp
    try rfl
  try simp only [Act.put, List.setIfInBounds_toArray, List.set_cons_zero, List.set_cons_succ]
  refine Rg.Upto.take (i := 1) (v := ?_) rfl (by kernel_rfl) (by kernel_rfl) (by kernel_rfl) (by kernel_rfl) (fun _ _ _ h => h) (by rfl) (fun w5 hS5 => ?_) HS ?_
  rotate_left
  · obtain ⟨s2, s3, s4⟩ := hS5
    go_simp
    try rfl
  try simp only [Act.put, List.setIfInBounds_toArray, List.set_cons_zero, List.set_cons_succ]
  refine Rg.Upto.take (i := 2) (v := ?_) rfl (by kernel_rfl) (by kernel_rfl) (by kernel_rfl) (by kernel_rfl) (fun _ _ _ h => h) (by rfl) (fun w5 hS5 => ?_) HS ?_
  rotate_left
  · obtain ⟨s2, s3, s4⟩ := hS5
    go_simp
    try rfl
  try simp only [Act.put, List.setIfInBounds_toArray, List.set_cons_zero, List.set_cons_succ]
  refine Rg.Upto.take (i := 3) (v := ?_) rfl (by kernel_rfl) (by kernel_rfl) (by kernel_rfl) (by kernel_rfl) (fun _ _ _ h => h) (by rfl) (fun w5 hS5 => ?_) HS ?_
  rotate_left
  · obtain ⟨s2, s3, s4⟩ := hS5
    go_simp
    try rfl
  try simp only [Act.put, List.setIfInBounds_toArray, List.set_cons_zero, List.set_cons_succ]
  refine Rg.Upto.take (i := 4) (v := ?_) rfl (by kernel_rfl) (by kernel_rfl) (by kernel_rfl) (by kernel_rfl) (fun _ _ _ h => h) (by rfl) (fun w5 hS5 => ?_) HS ?_
  rotate_left
  · obtain ⟨s2, s3, s4⟩ := hS5
    go_simp
    try rfl
  try simp only [Act.put, List.setIfInBounds_toArray, List.set_cons_zero, List.set_cons_succ]
  refine Rg.Upto.take (i := 6) (v := ?_) rfl (by kernel_rfl) (by kernel_rfl) (by kernel_rfl) (by kernel_rfl) (fun _ _ _ h => h) (by rfl) (fun w5 hS5 => ?_) HS ?_
  rotate_left
  · obtain ⟨s2, s3, s4⟩ := hS5
    go_simp
    try rfl
  try simp only [Act.put, List.setIfInBounds_toArray, List.set_cons_zero, List.set_cons_succ]
  refine Rg.Upto.take (i := 7) (v := ?_) rfl (by kernel_rfl) (by kernel_rfl) (by kernel_rfl) (by kernel_rfl) (fun _ _ _ h => h) (by rfl) (fun w5 hS5 => ?_) HS ?_
  rotate_left
  · obtain ⟨s2, s3, s4⟩ := hS5
    go_simp
    try rfl
  try simp only [Act.put, List.setIfInBounds_toArray, List.set_cons_zero, List.set_cons_succ]
  refine Rg.Upto.take (i := 8) (v := ?_) rfl (by kernel_rfl) (by kernel_rfl) (by kernel_rfl) (by kernel_rfl) (fun _ _ _ h => h) (by rfl) (fun w5 hS5 => ?_) HS ?_
  rotate_left
  · obtain ⟨s2, s3, s4⟩ := hS5
    go_simp
    try rfl
  try simp only [Act.put, List.setIfInBounds_toArray, List.set_cons_zero, List.set_cons_succ]
  refine Rg.Upto.take (i := 9) (v := ?_) rfl (by kernel_rfl) (by kernel_rfl) (by kernel_rfl) (by kernel_rfl) (fun _ _ _ h => h) (by rfl) (fun w5 hS5 => ?_) HS ?_
  rotate_left
  · obtain ⟨s2, s3, s4⟩ := hS5
    go_simp
    try rfl
  try simp only [Act.put, List.setIfInBounds_toArray, List.set_cons_zero, List.set_cons_succ]
  refine Rg.Upto.take (i := 10) (v := ?_) rfl (by kernel_rfl) (by kernel_rfl) (by kernel_rfl) (by kernel_rfl) (fun _ _ _ h => h) (by rfl) (fun w5 hS5 => ?_) HS ?_
  rotate_left
  · obtain ⟨s2, s3, s4⟩ := hS5
    go_simp
    try rfl
  try simp only [Act.put, List.setIfInBounds_toArray, List.set_cons_zero, List.set_cons_succ]
  refine Rg.Upto.take (i := 11) (v := ?_) rfl (by kernel_rfl) (by kernel_rfl) (by kernel_rfl) (by kernel_rfl) (fun _ _ _ h => h) (by rfl) (fun w5 hS5 => ?_) HS ?_
  rotate_left
  · obtain ⟨s2, s3, s4⟩ := hS5
    go_simp
    try rfl
  try simp only [Act.put, List.setIfInBounds_toArray, List.set_cons_zero, List.set_cons_succ]
  refine Rg.Upto.one (i := 5) rfl (by kernel_rfl) (by rfl) (fun K hK => ?_)
  go_simp
  refine (HD.out.duo.and_ i o2 o4 HI.out (by omega)).mono ?_
  rintro e w5 ⟨rfl, hD⟩
  have HO5 := Lib.hid ((hD.fr.block _ (blk_lt HO.out) (not_touchD HO.out ⟨hwc, hwc2⟩ (by decide))).trans HO.out)
  replace HO := HO5
  replace HD := Lib.hid (HD.out.trans hD)
  clear hD
  have HSC := ofacts HO.out
  refine hK.out _ _ HSC ?_
  clear hK K
  try simp only [Act.put, List.setIfInBounds_toArray, List.set_cons_zero, List.set_cons_succ]
  refine Rg.Upto.one (i := 12) rfl (by kernel_rfl) (by rfl) (fun K hK => ?_)
  have hm2 := HD.out.duo.do_ i 6 o2 0 o4 HJ.out (by omega) (by decide) (by decide)
  rw [HEQ.out] at hm2
  go_simp
  refine (hm2).mono ?_
  rintro e w6 ⟨rfl, hD⟩
  have HO5 := Lib.hid ((hD.fr.block _ (blk_lt HO.out) (not_touchD HO.out ⟨hwc, hwc2⟩ (by decide))).trans HO.out)
  replace HO := HO5
  replace HD := Lib.hid (HD.out.trans hD)
  clear hD
  have HSC := ofacts HO.out
  refine hK.out _ _ HSC ?_
  clear hm2
  clear hK K
  try simp only [Act.put, List.setIfInBounds_toArray, List.set_cons_zero, List.set_cons_succ]
  refine Rg.Upto.one (i := 13) rfl (by kernel_rfl) (by rfl) (fun K hK => ?_)
  go_simp
  refine hK.out _ _ HSC ?_
  clear hK K
  try simp only [Act.put, List.setIfInBounds_toArray, List.set_cons_zero, List.set_cons_succ]
  refine Rg.Upto.last rfl (by kernel_rfl) (by kernel_rfl) (by rfl) (fun K hK => ?_)
  go_simp
  refine hK.out _ _ ?_
  clear hK K
  go_wp2
  go_ret
  exact ⟨rfl, _, _, false, HD.out, HRN.out, acc_len _ _ _ _ _ _ _⟩

set_option maxHeartbeats 8000000 in
set_option maxRecDepth 100000 in
theorem one2 (K : Bool) (B : Nat) (w : World) (a c m c2 i p q : Nat) (s t : AS) (ps qs : List (Nat × Int × Bool)) (who : Int) (g : Bool) (o0 o2 o3 o4 : Int) (h : Duo B w a c s ps m c2 t qs) (hi : ps[i]? = some (p, who, g)) (hj : qs[i]? = some (q, who, g)) (hR : Rel K s t) (hl : t.log.length ≤ 1000) :
    Calls Try.prog 30 #[.pointer (some ⟨a, 0, none⟩), .pointer (some ⟨p, 0, none⟩), .pointer (some ⟨m, 0, none⟩), .pointer (some ⟨q, 0, none⟩), .agg #[.int .i64 o0, .int .i64 2, .int .i64 o2, .int .u64 o3, .int .u64 o4]] w (OnePost K B w a c i p q who ps m c2 t qs) := by
  have hsl : s.log.length ≤ 1000 := by rw [hR.log]; split <;> simp [hl]
  have HI := Lib.hid hi
  have HJ := Lib.hid hj
  have HRL := Lib.hid hR
  obtain ⟨hwc, hwc2⟩ : w.heap.size ≠ c ∧ w.heap.size ≠ c2 := by
    obtain ⟨lv, lv2, hA, hM, _⟩ := h.both
    have := blk_lt hA.cel
    have := blk_lt hM.cel
    omega
  have HD := Lib.hid (h.start (.cells #[.int .i64 o0, .int .i64 2, .int .i64 o2, .int .u64 o3, .int .u64 o4] 25))
  have HO := Lib.hid (Hp.blk_new w (.cells #[.int .i64 o0, .int .i64 2, .int .i64 o2, .int .u64 o3, .int .u64 o4] 25))
  have hNT : ¬ TouchD c c2 (w.alloc (.cells #[.int .i64 o0, .int .i64 2, .int .i64 o2, .int .u64 o3, .int .u64 o4] 25)) w.heap.size := not_touchD HO.out ⟨hwc, hwc2⟩ (by decide)
  clear h hi hj hR

  have hacc := HRL.out.acc (by omega) g who 2 o2 0 o4
  have HRN := Lib.hid hacc.2
  clear hacc
  go_enter Try.func30, Try.ntmps30
  go_wp2_with (first
    | (go_at_call 19; go_loud ((have hm := HD.out.duo.store i o2 o4 HI.out (by omega)); (with_reducible refine hm.mono ?_); clear hm; rintro e w5 ⟨rfl, hD⟩; (have HO5 := Lib.hid ((hD.fr.block _ (blk_lt HO.out) (not_touchD HO.out ⟨hwc, hwc2⟩ (by decide))).trans HO.out)); replace HO := HO5; replace HD := Lib.hid (HD.out.trans hD); clear hD; (try clear b0 b1 b2 b3 b4); (obtain ⟨b0, b1, b2, b3, b4⟩ : w5.cell? ⟨w.heap.size, 0, none⟩ = some (.int .i64 o0) ∧ w5.cell? ⟨w.heap.size, 1, none⟩ = some (.int .i64 2) ∧ w5.cell? ⟨w.heap.size, 2, none⟩ = some (.int .i64 o2) ∧ w5.cell? ⟨w.heap.size, 3, none⟩ = some (.int .u64 o3) ∧ w5.cell? ⟨w.heap.size, 4, none⟩ = some (.int .u64 o4) := ⟨(Hp.blk_cell HO.out 0 rfl).1, (Hp.blk_cell HO.out 1 rfl).1, (Hp.blk_cell HO.out 2 rfl).1, (Hp.blk_cell HO.out 3 rfl).1, (Hp.blk_cell HO.out 4 rfl).1⟩)))
    | (go_at_call 43; go_loud ((have hm := HD.out.duo.do_ i 2 o2 0 o4 HJ.out (by omega) (by decide) (by decide)); (with_reducible refine hm.mono ?_); clear hm; rintro e w6 ⟨rfl, hD⟩; (have HO5 := Lib.hid ((hD.fr.block _ (blk_lt HO.out) (not_touchD HO.out ⟨hwc, hwc2⟩ (by decide))).trans HO.out)); replace HO := HO5; replace HD := Lib.hid (HD.out.trans hD); clear hD; (try clear b0 b1 b2 b3 b4); (obtain ⟨b0, b1, b2, b3, b4⟩ : w6.cell? ⟨w.heap.size, 0, none⟩ = some (.int .i64 o0) ∧ w6.cell? ⟨w.heap.size, 1, none⟩ = some (.int .i64 2) ∧ w6.cell? ⟨w.heap.size, 2, none⟩ = some (.int .i64 o2) ∧ w6.cell? ⟨w.heap.size, 3, none⟩ = some (.int .u64 o3) ∧ w6.cell? ⟨w.heap.size, 4, none⟩ = some (.int .u64 o4) := ⟨(Hp.blk_cell HO.out 0 rfl).1, (Hp.blk_cell HO.out 1 rfl).1, (Hp.blk_cell HO.out 2 rfl).1, (Hp.blk_cell HO.out 3 rfl).1, (Hp.blk_cell HO.out 4 rfl).1⟩))))
  replace HD := Lib.hid HD.out.drew
  have HSC := qfacts HD.out.duo (set_get (y := (q, who, false)) HJ.out)
  refine Rg.Upto.start (fun w' => w'.cell? ⟨q, 0, none⟩ = some (.int .i64 who) ∧ w'.cell? ⟨q, 1, none⟩ = some (.bool false)) 16 (by kernel_rfl) HSC (fun HS => ?_)
  refine Rg.Upto.take (i := 0) (v := ?_) rfl (by kernel_rfl) (by kernel_rfl) (by kernel_rfl) (by kernel_rfl) (fun _ _ _ h => h) (by rfl) (fun w5 hS5 => ?_) HS ?_
  rotate_left
  · obtain ⟨s2, s3⟩ := hS5
    go_simp
    try rfl
  try simp only [Act.put, List.setIfInBounds_toArray, List.set_cons_zero, List.set_cons_succ]
  refine Rg.Upto.take (i := 2) (v := ?_) rfl (by kernel_rfl) (by kernel_rfl) (by kernel_rfl) (by kernel_rfl) (fun _ _ _ h => h) (by rfl) (fun w5 hS5 => ?_) HS ?_
  rotate_left
  · obtain ⟨s2, s3⟩ := hS5
    go_simp
    try rfl
  try simp only [Act.put, List.setIfInBounds_toArray, List.set_cons_zero, List.set_cons_succ]
  refine Rg.Upto.take (i := 3) (v := ?_) rfl (by kernel_rfl) (by kernel_rfl) (by kernel_rfl) (by kernel_rfl) (fun _ _ _ h => h) (by rfl) (fun w5 hS5 => ?_) HS ?_
  rotate_left
  · obtain ⟨s2, s3⟩ := hS5
    go_simp
    try rfl
  try simp only [Act.put, List.setIfInBounds_toArray, List.set_cons_zero, List.set_cons_succ]
  refine Rg.Upto.take (i := 4) (v := ?_) rfl (by kernel_rfl) (by kernel_rfl) (by kernel_rfl) (by kernel_rfl) (fun _ _ _ h => h) (by rfl) (fun w5 hS5 => ?_) HS ?_
  rotate_left
  · obtain ⟨s2, s3⟩ := hS5
    go_simp
    try rfl
  try simp only [Act.put, List.setIfInBounds_toArray, List.set_cons_zero, List.set_cons_succ]
  refine Rg.Upto.take (i := 5) (v := ?_) rfl (by kernel_rfl) (by kernel_rfl) (by kernel_rfl) (by kernel_rfl) (fun _ _ _ h => h) (by rfl) (fun w5 hS5 => ?_) HS ?_
  rotate_left
  · obtain ⟨s2, s3⟩ := hS5
    go_simp
    try rfl
  try simp only [Act.put, List.setIfInBounds_toArray, List.set_cons_zero, List.set_cons_succ]
  refine Rg.Upto.one (i := 1) rfl (by kernel_rfl) (by rfl) (fun K hK => ?_)
  go_simp
  refine (HD.out.duo.sys.open_ i (set_get (y := (p, who, false)) HI.out)).mono ?_
  rintro e w8 ⟨rfl, rfl⟩
  refine hK.out _ _ HSC ?_
  clear hK K
  try simp only [Act.put, List.setIfInBounds_toArray, List.set_cons_zero, List.set_cons_succ]
  refine Rg.Upto.one (i := 6) rfl (by kernel_rfl) (by rfl) (fun K hK => ?_)
  go_simp
  refine hK.out _ _ HSC ?_
  clear hK K
  try simp only [Act.put, List.setIfInBounds_toArray, List.set_cons_zero, List.set_cons_succ]
  refine Rg.Upto.one (i := 7) rfl (by kernel_rfl) (by rfl) (fun K hK => ?_)
  go_simp
  refine hK.out _ _ HSC ?_
  clear hK K
  try simp only [Act.put, List.setIfInBounds_toArray, List.set_cons_zero, List.set_cons_succ]
  refine Rg.Upto.take (i := 8) (v := ?_) rfl (by kernel_rfl) (by kernel_rfl) (by kernel_rfl) (by kernel_rfl) (fun _ _ _ h => h) (by rfl) (fun w5 hS5 => ?_) HS ?_
  rotate_left
  · obtain ⟨s2, s3⟩ := hS5
    go_simp
    try rfl
  try simp only [Act.put, List.setIfInBounds_toArray, List.set_cons_zero, List.set_cons_succ]
  refine Rg.Upto.take (i := 10) (v := ?_) rfl (by kernel_rfl) (by kernel_rfl) (by kernel_rfl) (by kernel_rfl) (fun _ _ _ h => h) (by rfl) (fun w5 hS5 => ?_) HS ?_
  rotate_left
  · obtain ⟨s2, s3⟩ := hS5
    go_simp
    try rfl
  try simp only [Act.put, List.setIfInBounds_toArray, List.set_cons_zero, List.set_cons_succ]
  refine Rg.Upto.take (i := 11) (v := ?_) rfl (by kernel_rfl) (by kernel_rfl) (by kernel_rfl) (by kernel_rfl) (fun _ _ _ h => h) (by rfl) (fun w5 hS5 => ?_) HS ?_
  rotate_left
  · obtain ⟨s2, s3⟩ := hS5
    go_simp
    try rfl
  try simp only [Act.put, List.setIfInBounds_toArray, List.set_cons_zero, List.set_cons_succ]
  refine Rg.Upto.take (i := 12) (v := ?_) rfl (by kernel_rfl) (by kernel_rfl) (by kernel_rfl) (by kernel_rfl) (fun _ _ _ h => h) (by rfl) (fun w5 hS5 => ?_) HS ?_
  rotate_left
  · obtain ⟨s2, s3⟩ := hS5
    go_simp
    try rfl
  try simp only [Act.put, List.setIfInBounds_toArray, List.set_cons_zero, List.set_cons_succ]
  refine Rg.Upto.take (i := 13) (v := ?_) rfl (by kernel_rfl) (by kernel_rfl) (by kernel_rfl) (by kernel_rfl) (fun _ _ _ h => h) (by rfl) (fun w5 hS5 => ?_) HS ?_
  rotate_left
  · obtain ⟨s2, s3⟩ := hS5
    go_simp
    try rfl
  try simp only [Act.put, List.setIfInBounds_toArray, List.set_cons_zero, List.set_cons_succ]
  refine Rg.Upto.one (i := 9) rfl (by kernel_rfl) (by rfl) (fun K hK => ?_)
  go_simp
  refine (HD.out.duo.sys.who i (set_get (y := (p, who, false)) HI.out)).mono ?_
  rintro e w8 ⟨rfl, rfl⟩
  refine hK.out _ _ HSC ?_
  clear hK K
  try simp only [Act.put, List.setIfInBounds_toArray, List.set_cons_zero, List.set_cons_succ]
  refine Rg.Upto.one (i := 14) rfl (by kernel_rfl) (by rfl) (fun K hK => ?_)
  go_simp
  refine hK.out _ _ HSC ?_
  clear hK K
  try simp only [Act.put, List.setIfInBounds_toArray, List.set_cons_zero, List.set_cons_succ]
  refine Rg.Upto.one (i := 15) rfl (by kernel_rfl) (by rfl) (fun K hK => ?_)
  go_simp
  refine hK.out _ _ HSC ?_
  clear hK K
  try simp only [Act.put, List.setIfInBounds_toArray, List.set_cons_zero, List.set_cons_succ]
  refine Rg.Upto.last rfl (by kernel_rfl) (by kernel_rfl) (by rfl) (fun K hK => ?_)
  go_simp
  refine hK.out _ _ ?_
  clear hK K
  go_wp2
  go_ret
  exact ⟨rfl, _, _, false, HD.out, HRN.out, acc_len _ _ _ _ _ _ _⟩

set_option maxHeartbeats 8000000 in
set_option maxRecDepth 100000 in
theorem one7 (K : Bool) (B : Nat) (w : World) (a c m c2 i p q : Nat) (s t : AS) (ps qs : List (Nat × Int × Bool)) (who : Int) (g : Bool) (o0 o2 o3 o4 : Int) (h : Duo B w a c s ps m c2 t qs) (hi : ps[i]? = some (p, who, g)) (hj : qs[i]? = some (q, who, g)) (hR : Rel K s t) (hl : t.log.length ≤ 1000) :
    Calls Try.prog 30 #[.pointer (some ⟨a, 0, none⟩), .pointer (some ⟨p, 0, none⟩), .pointer (some ⟨m, 0, none⟩), .pointer (some ⟨q, 0, none⟩), .agg #[.int .i64 o0, .int .i64 7, .int .i64 o2, .int .u64 o3, .int .u64 o4]] w (OnePost K B w a c i p q who ps m c2 t qs) := by
  have hsl : s.log.length ≤ 1000 := by rw [hR.log]; split <;> simp [hl]
  have HI := Lib.hid hi
  have HJ := Lib.hid hj
  have HRL := Lib.hid hR
  obtain ⟨hwc, hwc2⟩ : w.heap.size ≠ c ∧ w.heap.size ≠ c2 := by
    obtain ⟨lv, lv2, hA, hM, _⟩ := h.both
    have := blk_lt hA.cel
    have := blk_lt hM.cel
    omega
  have HD := Lib.hid (h.start (.cells #[.int .i64 o0, .int .i64 7, .int .i64 o2, .int .u64 o3, .int .u64 o4] 25))
  have HO := Lib.hid (Hp.blk_new w (.cells #[.int .i64 o0, .int .i64 7, .int .i64 o2, .int .u64 o3, .int .u64 o4] 25))
  have hNT : ¬ TouchD c c2 (w.alloc (.cells #[.int .i64 o0, .int .i64 7, .int .i64 o2, .int .u64 o3, .int .u64 o4] 25)) w.heap.size := not_touchD HO.out ⟨hwc, hwc2⟩ (by decide)
  clear h hi hj hR

  obtain ⟨z0, z1⟩ := qfacts HD.out.duo HJ.out
  go_enter Try.func30, Try.ntmps30
  go_wp2_with (first
    | (go_at_call 13; go_loud ((have hm := HD.out.duo.grant i HI.out); (with_reducible refine hm.mono ?_); clear hm; rintro e w5 ⟨rfl, hD⟩; (have HO5 := Lib.hid ((hD.fr.block _ (blk_lt HO.out) (not_touchD HO.out ⟨hwc, hwc2⟩ (by decide))).trans HO.out)); replace HO := HO5; replace HD := Lib.hid (HD.out.trans hD); clear hD; (try clear b0 b1 b2 b3 b4); (obtain ⟨b0, b1, b2, b3, b4⟩ : w5.cell? ⟨w.heap.size, 0, none⟩ = some (.int .i64 o0) ∧ w5.cell? ⟨w.heap.size, 1, none⟩ = some (.int .i64 7) ∧ w5.cell? ⟨w.heap.size, 2, none⟩ = some (.int .i64 o2) ∧ w5.cell? ⟨w.heap.size, 3, none⟩ = some (.int .u64 o3) ∧ w5.cell? ⟨w.heap.size, 4, none⟩ = some (.int .u64 o4) := ⟨(Hp.blk_cell HO.out 0 rfl).1, (Hp.blk_cell HO.out 1 rfl).1, (Hp.blk_cell HO.out 2 rfl).1, (Hp.blk_cell HO.out 3 rfl).1, (Hp.blk_cell HO.out 4 rfl).1⟩); clear z0 z1; (obtain ⟨z0, z1⟩ := qfacts HD.out.duo HJ.out); (have y1 := qfree HD.out.duo HJ.out); (have HDQ := Lib.hid (HD.out.trans (HD.out.duo.setQ i HJ.out))))))
  clear z0 z1 y1
  replace HD := HDQ
  clear HDQ
  replace HD := Lib.hid HD.out.drew
  have HSC := qfacts HD.out.duo (set_get (y := (q, who, true)) HJ.out)
  refine Rg.Upto.start (fun w' => w'.cell? ⟨q, 0, none⟩ = some (.int .i64 who) ∧ w'.cell? ⟨q, 1, none⟩ = some (.bool true)) 16 (by kernel_rfl) HSC (fun HS => ?_)
  refine Rg.Upto.take (i := 0) (v := ?_) rfl (by kernel_rfl) (by kernel_rfl) (by kernel_rfl) (by kernel_rfl) (fun _ _ _ h => h) (by rfl) (fun w5 hS5 => ?_) HS ?_
  rotate_left
  · obtain ⟨s2, s3⟩ := hS5
    go_simp
    try rfl
  try simp only [Act.put, List.setIfInBounds_toArray, List.set_cons_zero, List.set_cons_succ]
  refine Rg.Upto.take (i := 2) (v := ?_) rfl (by kernel_rfl) (by kernel_rfl) (by kernel_rfl) (by kernel_rfl) (fun _ _ _ h => h) (by rfl) (fun w5 hS5 => ?_) HS ?_
  rotate_left
  · obtain ⟨s2, s3⟩ := hS5
    go_simp
    try rfl
  try simp only [Act.put, List.setIfInBounds_toArray, List.set_cons_zero, List.set_cons_succ]
  refine Rg.Upto.take (i := 3) (v := ?_) rfl (by kernel_rfl) (by kernel_rfl) (by kernel_rfl) (by kernel_rfl) (fun _ _ _ h => h) (by rfl) (fun w5 hS5 => ?_) HS ?_
  rotate_left
  · obtain ⟨s2, s3⟩ := hS5
    go_simp
    try rfl
  try simp only [Act.put, List.setIfInBounds_toArray, List.set_cons_zero, List.set_cons_succ]
  refine Rg.Upto.take (i := 4) (v := ?_) rfl (by kernel_rfl) (by kernel_rfl) (by kernel_rfl) (by kernel_rfl) (fun _ _ _ h => h) (by rfl) (fun w5 hS5 => ?_) HS ?_
  rotate_left
  · obtain ⟨s2, s3⟩ := hS5
    go_simp
    try rfl
  try simp only [Act.put, List.setIfInBounds_toArray, List.set_cons_zero, List.set_cons_succ]
  refine Rg.Upto.take (i := 5) (v := ?_) rfl (by kernel_rfl) (by kernel_rfl) (by kernel_rfl) (by kernel_rfl) (fun _ _ _ h => h) (by rfl) (fun w5 hS5 => ?_) HS ?_
  rotate_left
  · obtain ⟨s2, s3⟩ := hS5
    go_simp
    try rfl
  try simp only [Act.put, List.setIfInBounds_toArray, List.set_cons_zero, List.set_cons_succ]
  refine Rg.Upto.one (i := 1) rfl (by kernel_rfl) (by rfl) (fun K hK => ?_)
  go_simp
  refine (HD.out.duo.sys.open_ i (set_get (y := (p, who, true)) HI.out)).mono ?_
  rintro e w8 ⟨rfl, rfl⟩
  refine hK.out _ _ HSC ?_
  clear hK K
  try simp only [Act.put, List.setIfInBounds_toArray, List.set_cons_zero, List.set_cons_succ]
  refine Rg.Upto.one (i := 6) rfl (by kernel_rfl) (by rfl) (fun K hK => ?_)
  go_simp
  refine hK.out _ _ HSC ?_
  clear hK K
  try simp only [Act.put, List.setIfInBounds_toArray, List.set_cons_zero, List.set_cons_succ]
  refine Rg.Upto.one (i := 7) rfl (by kernel_rfl) (by rfl) (fun K hK => ?_)
  go_simp
  refine hK.out _ _ HSC ?_
  clear hK K
  try simp only [Act.put, List.setIfInBounds_toArray, List.set_cons_zero, List.set_cons_succ]
  refine Rg.Upto.take (i := 8) (v := ?_) rfl (by kernel_rfl) (by kernel_rfl) (by kernel_rfl) (by kernel_rfl) (fun _ _ _ h => h) (by rfl) (fun w5 hS5 => ?_) HS ?_
  rotate_left
  · obtain ⟨s2, s3⟩ := hS5
    go_simp
    try rfl
  try simp only [Act.put, List.setIfInBounds_toArray, List.set_cons_zero, List.set_cons_succ]
  refine Rg.Upto.take (i := 10) (v := ?_) rfl (by kernel_rfl) (by kernel_rfl) (by kernel_rfl) (by kernel_rfl) (fun _ _ _ h => h) (by rfl) (fun w5 hS5 => ?_) HS ?_
  rotate_left
  · obtain ⟨s2, s3⟩ := hS5
    go_simp
    try rfl
  try simp only [Act.put, List.setIfInBounds_toArray, List.set_cons_zero, List.set_cons_succ]
  refine Rg.Upto.take (i := 11) (v := ?_) rfl (by kernel_rfl) (by kernel_rfl) (by kernel_rfl) (by kernel_rfl) (fun _ _ _ h => h) (by rfl) (fun w5 hS5 => ?_) HS ?_
  rotate_left
  · obtain ⟨s2, s3⟩ := hS5
    go_simp
    try rfl
  try simp only [Act.put, List.setIfInBounds_toArray, List.set_cons_zero, List.set_cons_succ]
  refine Rg.Upto.take (i := 12) (v := ?_) rfl (by kernel_rfl) (by kernel_rfl) (by kernel_rfl) (by kernel_rfl) (fun _ _ _ h => h) (by rfl) (fun w5 hS5 => ?_) HS ?_
  rotate_left
  · obtain ⟨s2, s3⟩ := hS5
    go_simp
    try rfl
  try simp only [Act.put, List.setIfInBounds_toArray, List.set_cons_zero, List.set_cons_succ]
  refine Rg.Upto.take (i := 13) (v := ?_) rfl (by kernel_rfl) (by kernel_rfl) (by kernel_rfl) (by kernel_rfl) (fun _ _ _ h => h) (by rfl) (fun w5 hS5 => ?_) HS ?_
  rotate_left
  · obtain ⟨s2, s3⟩ := hS5
    go_simp
    try rfl
  try simp only [Act.put, List.setIfInBounds_toArray, List.set_cons_zero, List.set_cons_succ]
  refine Rg.Upto.one (i := 9) rfl (by kernel_rfl) (by rfl) (fun K hK => ?_)
  go_simp
  refine (HD.out.duo.sys.who i (set_get (y := (p, who, true)) HI.out)).mono ?_
  rintro e w8 ⟨rfl, rfl⟩
  refine hK.out _ _ HSC ?_
  clear hK K
  try simp only [Act.put, List.setIfInBounds_toArray, List.set_cons_zero, List.set_cons_succ]
  refine Rg.Upto.one (i := 14) rfl (by kernel_rfl) (by rfl) (fun K hK => ?_)
  go_simp
  refine hK.out _ _ HSC ?_
  clear hK K
  try simp only [Act.put, List.setIfInBounds_toArray, List.set_cons_zero, List.set_cons_succ]
  refine Rg.Upto.one (i := 15) rfl (by kernel_rfl) (by rfl) (fun K hK => ?_)
  go_simp
  refine hK.out _ _ HSC ?_
  clear hK K
  try simp only [Act.put, List.setIfInBounds_toArray, List.set_cons_zero, List.set_cons_succ]
  refine Rg.Upto.last rfl (by kernel_rfl) (by kernel_rfl) (by rfl) (fun K hK => ?_)
  go_simp
  refine hK.out _ _ ?_
  clear hK K
  go_wp2
  go_ret
  exact ⟨rfl, _, _, true, HD.out, HRL.out, Nat.le_succ _⟩

set_option maxHeartbeats 8000000 in
set_option maxRecDepth 100000 in
theorem oneN (K : Bool) (B : Nat) (w : World) (a c m c2 i p q : Nat) (s t : AS) (ps qs : List (Nat × Int × Bool)) (who : Int) (g : Bool) (o0 o1 o2 o3 o4 : Int) (hn : o1 < 1 ∨ 9 < o1) (h : Duo B w a c s ps m c2 t qs) (hi : ps[i]? = some (p, who, g)) (hj : qs[i]? = some (q, who, g)) (hR : Rel K s t) (hl : t.log.length ≤ 1000) :
    Calls Try.prog 30 #[.pointer (some ⟨a, 0, none⟩), .pointer (some ⟨p, 0, none⟩), .pointer (some ⟨m, 0, none⟩), .pointer (some ⟨q, 0, none⟩), .agg #[.int .i64 o0, .int .i64 o1, .int .i64 o2, .int .u64 o3, .int .u64 o4]] w (OnePost K B w a c i p q who ps m c2 t qs) := by
  have hsl : s.log.length ≤ 1000 := by rw [hR.log]; split <;> simp [hl]
  have HI := Lib.hid hi
  have HJ := Lib.hid hj
  have HRL := Lib.hid hR
  obtain ⟨hwc, hwc2⟩ : w.heap.size ≠ c ∧ w.heap.size ≠ c2 := by
    obtain ⟨lv, lv2, hA, hM, _⟩ := h.both
    have := blk_lt hA.cel
    have := blk_lt hM.cel
    omega
  have HD := Lib.hid (h.start (.cells #[.int .i64 o0, .int .i64 o1, .int .i64 o2, .int .u64 o3, .int .u64 o4] 25))
  have HO := Lib.hid (Hp.blk_new w (.cells #[.int .i64 o0, .int .i64 o1, .int .i64 o2, .int .u64 o3, .int .u64 o4] 25))
  have hNT : ¬ TouchD c c2 (w.alloc (.cells #[.int .i64 o0, .int .i64 o1, .int .i64 o2, .int .u64 o3, .int .u64 o4] 25)) w.heap.size := not_touchD HO.out ⟨hwc, hwc2⟩ (by decide)
  clear h hi hj hR

  have n1 : (o1 == 1) = false := by simp; omega
  have n2 : (o1 == 2) = false := by simp; omega
  have n3 : (o1 == 3) = false := by simp; omega
  have n4 : (o1 == 4) = false := by simp; omega
  have n5 : (o1 == 5) = false := by simp; omega
  have n6 : (o1 == 6) = false := by simp; omega
  have n7 : (o1 == 7) = false := by simp; omega
  have n8 : (o1 == 8) = false := by simp; omega
  have n9 : (o1 == 9) = false := by simp; omega
  clear hn
  go_enter Try.func30, Try.ntmps30
  go_wp2_with (fail)
  replace HD := Lib.hid HD.out.drew
  have HSC := qfacts HD.out.duo HJ.out
  refine Rg.Upto.start (fun w' => w'.cell? ⟨q, 0, none⟩ = some (.int .i64 who) ∧ w'.cell? ⟨q, 1, none⟩ = some (.bool g)) 16 (by kernel_rfl) HSC (fun HS => ?_)
  refine Rg.Upto.take (i := 0) (v := ?_) rfl (by kernel_rfl) (by kernel_rfl) (by kernel_rfl) (by kernel_rfl) (fun _ _ _ h => h) (by rfl) (fun w5 hS5 => ?_) HS ?_
  rotate_left
  · obtain ⟨s2, s3⟩ := hS5
    go_simp
    try rfl
  try simp only [Act.put, List.setIfInBounds_toArray, List.set_cons_zero, List.set_cons_succ]
  refine Rg.Upto.take (i := 2) (v := ?_) rfl (by kernel_rfl) (by kernel_rfl) (by kernel_rfl) (by kernel_rfl) (fun _ _ _ h => h) (by rfl) (fun w5 hS5 => ?_) HS ?_
  rotate_left
  · obtain ⟨s2, s3⟩ := hS5
    go_simp
    try rfl
  try simp only [Act.put, List.setIfInBounds_toArray, List.set_cons_zero, List.set_cons_succ]
  refine Rg.Upto.take (i := 3) (v := ?_) rfl (by kernel_rfl) (by kernel_rfl) (by kernel_rfl) (by kernel_rfl) (fun _ _ _ h => h) (by rfl) (fun w5 hS5 => ?_) HS ?_
  rotate_left
  · obtain ⟨s2, s3⟩ := hS5
    go_simp
    try rfl
  try simp only [Act.put, List.setIfInBounds_toArray, List.set_cons_zero, List.set_cons_succ]
  refine Rg.Upto.take (i := 4) (v := ?_) rfl (by kernel_rfl) (by kernel_rfl) (by kernel_rfl) (by kernel_rfl) (fun _ _ _ h => h) (by rfl) (fun w5 hS5 => ?_) HS ?_
  rotate_left
  · obtain ⟨s2, s3⟩ := hS5
    go_simp
    try rfl
  try simp only [Act.put, List.setIfInBounds_toArray, List.set_cons_zero, List.set_cons_succ]
  refine Rg.Upto.take (i := 5) (v := ?_) rfl (by kernel_rfl) (by kernel_rfl) (by kernel_rfl) (by kernel_rfl) (fun _ _ _ h => h) (by rfl) (fun w5 hS5 => ?_) HS ?_
  rotate_left
  · obtain ⟨s2, s3⟩ := hS5
    go_simp
    try rfl
  try simp only [Act.put, List.setIfInBounds_toArray, List.set_cons_zero, List.set_cons_succ]
  refine Rg.Upto.one (i := 1) rfl (by kernel_rfl) (by rfl) (fun K hK => ?_)
  go_simp
  refine (HD.out.duo.sys.open_ i HI.out).mono ?_
  rintro e w8 ⟨rfl, rfl⟩
  refine hK.out _ _ HSC ?_
  clear hK K
  try simp only [Act.put, List.setIfInBounds_toArray, List.set_cons_zero, List.set_cons_succ]
  refine Rg.Upto.one (i := 6) rfl (by kernel_rfl) (by rfl) (fun K hK => ?_)
  go_simp
  refine hK.out _ _ HSC ?_
  clear hK K
  try simp only [Act.put, List.setIfInBounds_toArray, List.set_cons_zero, List.set_cons_succ]
  refine Rg.Upto.one (i := 7) rfl (by kernel_rfl) (by rfl) (fun K hK => ?_)
  go_simp
  refine hK.out _ _ HSC ?_
  clear hK K
  try simp only [Act.put, List.setIfInBounds_toArray, List.set_cons_zero, List.set_cons_succ]
  refine Rg.Upto.take (i := 8) (v := ?_) rfl (by kernel_rfl) (by kernel_rfl) (by kernel_rfl) (by kernel_rfl) (fun _ _ _ h => h) (by rfl) (fun w5 hS5 => ?_) HS ?_
  rotate_left
  · obtain ⟨s2, s3⟩ := hS5
    go_simp
    try rfl
  try simp only [Act.put, List.setIfInBounds_toArray, List.set_cons_zero, List.set_cons_succ]
  refine Rg.Upto.take (i := 10) (v := ?_) rfl (by kernel_rfl) (by kernel_rfl) (by kernel_rfl) (by kernel_rfl) (fun _ _ _ h => h) (by rfl) (fun w5 hS5 => ?_) HS ?_
  rotate_left
  · obtain ⟨s2, s3⟩ := hS5
    go_simp
    try rfl
  try simp only [Act.put, List.setIfInBounds_toArray, List.set_cons_zero, List.set_cons_succ]
  refine Rg.Upto.take (i := 11) (v := ?_) rfl (by kernel_rfl) (by kernel_rfl) (by kernel_rfl) (by kernel_rfl) (fun _ _ _ h => h) (by rfl) (fun w5 hS5 => ?_) HS ?_
  rotate_left
  · obtain ⟨s2, s3⟩ := hS5
    go_simp
    try rfl
  try simp only [Act.put, List.setIfInBounds_toArray, List.set_cons_zero, List.set_cons_succ]
  refine Rg.Upto.take (i := 12) (v := ?_) rfl (by kernel_rfl) (by kernel_rfl) (by kernel_rfl) (by kernel_rfl) (fun _ _ _ h => h) (by rfl) (fun w5 hS5 => ?_) HS ?_
  rotate_left
  · obtain ⟨s2, s3⟩ := hS5
    go_simp
    try rfl
  try simp only [Act.put, List.setIfInBounds_toArray, List.set_cons_zero, List.set_cons_succ]
  refine Rg.Upto.take (i := 13) (v := ?_) rfl (by kernel_rfl) (by kernel_rfl) (by kernel_rfl) (by kernel_rfl) (fun _ _ _ h => h) (by rfl) (fun w5 hS5 => ?_) HS ?_
  rotate_left
  · obtain ⟨s2, s3⟩ := hS5
    go_simp
    try rfl
  try simp only [Act.put, List.setIfInBounds_toArray, List.set_cons_zero, List.set_cons_succ]
  refine Rg.Upto.one (i := 9) rfl (by kernel_rfl) (by rfl) (fun K hK => ?_)
  go_simp
  refine (HD.out.duo.sys.who i HI.out).mono ?_
  rintro e w8 ⟨rfl, rfl⟩
  refine hK.out _ _ HSC ?_
  clear hK K
  try simp only [Act.put, List.setIfInBounds_toArray, List.set_cons_zero, List.set_cons_succ]
  refine Rg.Upto.one (i := 14) rfl (by kernel_rfl) (by rfl) (fun K hK => ?_)
  go_simp
  refine hK.out _ _ HSC ?_
  clear hK K
  try simp only [Act.put, List.setIfInBounds_toArray, List.set_cons_zero, List.set_cons_succ]
  refine Rg.Upto.one (i := 15) rfl (by kernel_rfl) (by rfl) (fun K hK => ?_)
  go_simp
  refine hK.out _ _ HSC ?_
  clear hK K
  try simp only [Act.put, List.setIfInBounds_toArray, List.set_cons_zero, List.set_cons_succ]
  refine Rg.Upto.last rfl (by kernel_rfl) (by kernel_rfl) (by rfl) (fun K hK => ?_)
  go_simp
  refine hK.out _ _ ?_
  clear hK K
  go_wp2
  go_ret
  exact ⟨rfl, _, _, g, by rw [set_same HI.out, set_same HJ.out]; exact HD.out, HRL.out, Nat.le_succ _⟩

set_option maxHeartbeats 8000000 in
set_option maxRecDepth 100000 in
theorem one4 (K : Bool) (B : Nat) (w : World) (a c m c2 i p q : Nat) (s t : AS) (ps qs : List (Nat × Int × Bool)) (who : Int) (g : Bool) (o0 o2 o3 o4 : Int) (h : Duo B w a c s ps m c2 t qs) (hi : ps[i]? = some (p, who, g)) (hj : qs[i]? = some (q, who, g)) (hR : Rel K s t) (hl : t.log.length ≤ 1000) :
    Calls Try.prog 30 #[.pointer (some ⟨a, 0, none⟩), .pointer (some ⟨p, 0, none⟩), .pointer (some ⟨m, 0, none⟩), .pointer (some ⟨q, 0, none⟩), .agg #[.int .i64 o0, .int .i64 4, .int .i64 o2, .int .u64 o3, .int .u64 o4]] w (OnePost K B w a c i p q who ps m c2 t qs) := by
  have hsl : s.log.length ≤ 1000 := by rw [hR.log]; split <;> simp [hl]
  have HI := Lib.hid hi
  have HJ := Lib.hid hj
  have HRL := Lib.hid hR
  obtain ⟨hwc, hwc2⟩ : w.heap.size ≠ c ∧ w.heap.size ≠ c2 := by
    obtain ⟨lv, lv2, hA, hM, _⟩ := h.both
    have := blk_lt hA.cel
    have := blk_lt hM.cel
    omega
  have HD := Lib.hid (h.start (.cells #[.int .i64 o0, .int .i64 4, .int .i64 o2, .int .u64 o3, .int .u64 o4] 25))
  have HO := Lib.hid (Hp.blk_new w (.cells #[.int .i64 o0, .int .i64 4, .int .i64 o2, .int .u64 o3, .int .u64 o4] 25))
  have hNT : ¬ TouchD c c2 (w.alloc (.cells #[.int .i64 o0, .int .i64 4, .int .i64 o2, .int .u64 o3, .int .u64 o4] 25)) w.heap.size := not_touchD HO.out ⟨hwc, hwc2⟩ (by decide)
  clear h hi hj hR

  have hacc := HRL.out.acc (by omega) g who 4 o2 o3 o4
  have HRN := Lib.hid hacc.2
  have hln := acc_made t HRL.out.tk g who 4 o2 o3 o4
  have hle := acc_len t g who 4 o2 o3 o4
  obtain ⟨L, hL⟩ : ∃ L, L = t.log.length := ⟨_, rfl⟩
  obtain ⟨L2, hL2⟩ : ∃ L2, L2 = (t.acc g who 4 o2 o3 o4).1.log.length := ⟨_, rfl⟩
  rw [← hL, ← hL2] at hln
  have hxx := hacc.1
  obtain ⟨x, hx⟩ : ∃ x, x = (t.acc g who 4 o2 o3 o4).2 := ⟨_, rfl⟩
  have hcas : (g = true ∧ t.has o2 = true) → s.cells.getD o2.toNat 0 = x := by
    intro hm
    rw [hx, HRL.out.cells]
    unfold AS.acc
    rw [if_pos hm]
  have hhas : s.has o2 = t.has o2 := by unfold AS.has; rw [HRL.out.cells]
  have HLE := Lib.hid hle
  have HX := Lib.hid hx
  have HL := Lib.hid hL
  have HL2 := Lib.hid hL2
  clear hacc hle hxx hx hL hL2
  obtain ⟨A1, cap1, hm1⟩ := mlog HD.out.duo
  rw [← HL.out] at hm1
  go_enter Try.func30, Try.ntmps30
  go_upto_region 12 with (first
    | (go_at_call 43; go_loud ((have hm := HD.out.duo.do_ i 4 o2 o3 o4 HJ.out (by omega) (by decide) (by decide)); rw [← HX.out] at hm; (with_reducible refine hm.mono ?_); clear hm; rintro e w6 ⟨rfl, hD⟩; (have HO5 := Lib.hid ((hD.fr.block _ (blk_lt HO.out) (not_touchD HO.out ⟨hwc, hwc2⟩ (by decide))).trans HO.out)); replace HO := HO5; replace HD := Lib.hid (HD.out.trans hD); clear hD; (try clear b0 b1 b2 b3 b4); (obtain ⟨b0, b1, b2, b3, b4⟩ : w6.cell? ⟨w.heap.size, 0, none⟩ = some (.int .i64 o0) ∧ w6.cell? ⟨w.heap.size, 1, none⟩ = some (.int .i64 4) ∧ w6.cell? ⟨w.heap.size, 2, none⟩ = some (.int .i64 o2) ∧ w6.cell? ⟨w.heap.size, 3, none⟩ = some (.int .u64 o3) ∧ w6.cell? ⟨w.heap.size, 4, none⟩ = some (.int .u64 o4) := ⟨(Hp.blk_cell HO.out 0 rfl).1, (Hp.blk_cell HO.out 1 rfl).1, (Hp.blk_cell HO.out 2 rfl).1, (Hp.blk_cell HO.out 3 rfl).1, (Hp.blk_cell HO.out 4 rfl).1⟩))))
  clear hm1 b0 b1 b2 b3 b4
  obtain ⟨A2, cap2, hm2⟩ := mlog HD.out.duo
  rw [← HL2.out] at hm2
  replace HD := Lib.hid HD.out.drew
  replace HO := Lib.hid (drew_blk HO.out)
  obtain ⟨cb, hcb⟩ : ∃ cb, cb = (decide (g = true ∧ s.has o2 = true) && decide (s.cells.getD o2.toNat 0 = o3)) := ⟨_, rfl⟩
  have HCB := Lib.hid hcb
  by_cases hm : g = true ∧ t.has o2 = true
  · rw [if_pos hm] at hln
    rw [hhas, decide_eq_true hm, Bool.true_and, hcas hm] at hcb
    have z1 : decide ((L : Int) < (L2 : Int)) = true := decide_eq_true (by omega)
    have z1n : decide (L < L2) = true := decide_eq_true (by omega)
    clear hln hm hcas hhas
    by_cases he : x = o3
    · rw [decide_eq_true he] at hcb
      have z2 : (x == o3) = true := by simpa using he
      clear he
      subst hcb
      have HSC : (w6.drew.cell? ⟨w.heap.size, 2, none⟩ = some (.int .i64 o2) ∧ w6.drew.cell? ⟨w.heap.size, 3, none⟩ = some (.int .u64 o3) ∧ w6.drew.cell? ⟨w.heap.size, 4, none⟩ = some (.int .u64 o4)) ∧ w6.drew.cell? ⟨m, 1, none⟩ = some (.slice A2 L2 cap2) := ⟨ofacts HO.out, hm2⟩
      refine Rg.Upto.start (fun w' => (w'.cell? ⟨w.heap.size, 2, none⟩ = some (.int .i64 o2) ∧ w'.cell? ⟨w.heap.size, 3, none⟩ = some (.int .u64 o3) ∧ w'.cell? ⟨w.heap.size, 4, none⟩ = some (.int .u64 o4)) ∧ w'.cell? ⟨m, 1, none⟩ = some (.slice A2 L2 cap2)) 22 (by kernel_rfl) HSC (fun HS => ?_)
      refine Rg.Upto.take (i := 0) (v := ?_) rfl (by kernel_rfl) (by kernel_rfl) (by kernel_rfl) (by kernel_rfl) (fun _ _ _ h => h) (by rfl) (fun w5 hS5 => ?_) HSC ?_
      rotate_left
      · obtain ⟨⟨s2, s3, s4⟩, s5⟩ := hS5
        go_simp
        try rfl
      try simp only [Act.put, List.setIfInBounds_toArray, List.set_cons_zero, List.set_cons_succ]
      refine Rg.Upto.take (i := 1) (v := ?_) rfl (by kernel_rfl) (by kernel_rfl) (by kernel_rfl) (by kernel_rfl) (fun _ _ _ h => h) (by rfl) (fun w5 hS5 => ?_) HSC ?_
      rotate_left
      · obtain ⟨⟨s2, s3, s4⟩, s5⟩ := hS5
        go_simp
        try rfl
      try simp only [Act.put, List.setIfInBounds_toArray, List.set_cons_zero, List.set_cons_succ]
      refine Rg.Upto.take (i := 2) (v := ?_) rfl (by kernel_rfl) (by kernel_rfl) (by kernel_rfl) (by kernel_rfl) (fun _ _ _ h => h) (by rfl) (fun w5 hS5 => ?_) HSC ?_
      rotate_left
      · obtain ⟨⟨s2, s3, s4⟩, s5⟩ := hS5
        go_simp
        try rfl
      try simp only [Act.put, List.setIfInBounds_toArray, List.set_cons_zero, List.set_cons_succ]
      refine Rg.Upto.take (i := 3) (v := ?_) rfl (by kernel_rfl) (by kernel_rfl) (by kernel_rfl) (by kernel_rfl) (fun _ _ _ h => h) (by rfl) (fun w5 hS5 => ?_) HSC ?_
      rotate_left
      · obtain ⟨⟨s2, s3, s4⟩, s5⟩ := hS5
        go_simp
        try rfl
      try simp only [Act.put, List.setIfInBounds_toArray, List.set_cons_zero, List.set_cons_succ]
      refine Rg.Upto.take (i := 4) (v := ?_) rfl (by kernel_rfl) (by kernel_rfl) (by kernel_rfl) (by kernel_rfl) (fun _ _ _ h => h) (by rfl) (fun w5 hS5 => ?_) HSC ?_
      rotate_left
      · obtain ⟨⟨s2, s3, s4⟩, s5⟩ := hS5
        go_simp
        try rfl
      try simp only [Act.put, List.setIfInBounds_toArray, List.set_cons_zero, List.set_cons_succ]
      refine Rg.Upto.take (i := 5) (v := ?_) rfl (by kernel_rfl) (by kernel_rfl) (by kernel_rfl) (by kernel_rfl) (fun _ _ _ h => h) (by rfl) (fun w5 hS5 => ?_) HSC ?_
      rotate_left
      · obtain ⟨⟨s2, s3, s4⟩, s5⟩ := hS5
        go_simp
        try rfl
      try simp only [Act.put, List.setIfInBounds_toArray, List.set_cons_zero, List.set_cons_succ]
      refine Rg.Upto.take (i := 6) (v := ?_) rfl (by kernel_rfl) (by kernel_rfl) (by kernel_rfl) (by kernel_rfl) (fun _ _ _ h => h) (by rfl) (fun w5 hS5 => ?_) HSC ?_
      rotate_left
      · obtain ⟨⟨s2, s3, s4⟩, s5⟩ := hS5
        go_simp
        try rfl
      try simp only [Act.put, List.setIfInBounds_toArray, List.set_cons_zero, List.set_cons_succ]
      refine Rg.Upto.take (i := 8) (v := ?_) rfl (by kernel_rfl) (by kernel_rfl) (by kernel_rfl) (by kernel_rfl) (fun _ _ _ h => h) (by rfl) (fun w5 hS5 => ?_) HSC ?_
      rotate_left
      · obtain ⟨⟨s2, s3, s4⟩, s5⟩ := hS5
        go_simp
        try rfl
      try simp only [Act.put, List.setIfInBounds_toArray, List.set_cons_zero, List.set_cons_succ]
      refine Rg.Upto.take (i := 9) (v := ?_) rfl (by kernel_rfl) (by kernel_rfl) (by kernel_rfl) (by kernel_rfl) (fun _ _ _ h => h) (by rfl) (fun w5 hS5 => ?_) HSC ?_
      rotate_left
      · obtain ⟨⟨s2, s3, s4⟩, s5⟩ := hS5
        go_simp
        try rfl
      try simp only [Act.put, List.setIfInBounds_toArray, List.set_cons_zero, List.set_cons_succ]
      refine Rg.Upto.take (i := 10) (v := ?_) rfl (by kernel_rfl) (by kernel_rfl) (by kernel_rfl) (by kernel_rfl) (fun _ _ _ h => h) (by rfl) (fun w5 hS5 => ?_) HSC ?_
      rotate_left
      · obtain ⟨⟨s2, s3, s4⟩, s5⟩ := hS5
        go_simp
        try rfl
      try simp only [Act.put, List.setIfInBounds_toArray, List.set_cons_zero, List.set_cons_succ]
      refine Rg.Upto.take (i := 11) (v := ?_) rfl (by kernel_rfl) (by kernel_rfl) (by kernel_rfl) (by kernel_rfl) (fun _ _ _ h => h) (by rfl) (fun w5 hS5 => ?_) HSC ?_
      rotate_left
      · obtain ⟨⟨s2, s3, s4⟩, s5⟩ := hS5
        go_simp
        try rfl
      try simp only [Act.put, List.setIfInBounds_toArray, List.set_cons_zero, List.set_cons_succ]
      refine Rg.Upto.take (i := 12) (v := ?_) rfl (by kernel_rfl) (by kernel_rfl) (by kernel_rfl) (by kernel_rfl) (fun _ _ _ h => h) (by rfl) (fun w5 hS5 => ?_) HSC ?_
      rotate_left
      · obtain ⟨⟨s2, s3, s4⟩, s5⟩ := hS5
        go_simp
        try rfl
      try simp only [Act.put, List.setIfInBounds_toArray, List.set_cons_zero, List.set_cons_succ]
      refine Rg.Upto.take (i := 13) (v := ?_) rfl (by kernel_rfl) (by kernel_rfl) (by kernel_rfl) (by kernel_rfl) (fun _ _ _ h => h) (by rfl) (fun w5 hS5 => ?_) HSC ?_
      rotate_left
      · obtain ⟨⟨s2, s3, s4⟩, s5⟩ := hS5
        go_simp
        try rfl
      try simp only [Act.put, List.setIfInBounds_toArray, List.set_cons_zero, List.set_cons_succ]
      refine Rg.Upto.take (i := 14) (v := ?_) rfl (by kernel_rfl) (by kernel_rfl) (by kernel_rfl) (by kernel_rfl) (fun _ _ _ h => h) (by rfl) (fun w5 hS5 => ?_) HSC ?_
      rotate_left
      · obtain ⟨⟨s2, s3, s4⟩, s5⟩ := hS5
        go_simp
        try rfl
      try simp only [Act.put, List.setIfInBounds_toArray, List.set_cons_zero, List.set_cons_succ]
      refine Rg.Upto.one (i := 7) rfl (by kernel_rfl) (by rfl) (fun K hK => ?_)
      go_simp
      have hcm := HD.out.duo.casM i o2 o3 o4 HI.out (by omega)
      rw [← HCB.out] at hcm
      refine hcm.mono ?_
      clear hcm
      rintro e w7 ⟨rfl, hD, hmb⟩
      have HO5 := Lib.hid ((hD.fr.block _ (blk_lt HO.out) (not_touchD HO.out ⟨hwc, hwc2⟩ (by decide))).trans HO.out)
      replace HO := HO5
      have hm3 : w7.cell? ⟨m, 1, none⟩ = some (.slice A2 L2 cap2) := by
        have := HSC.2
        simp only [World.cell?] at this ⊢
        rw [hmb]
        exact this
      replace HD := Lib.hid (HD.out.trans hD)
      clear hD hmb HSC HS
      have HSC := And.intro (ofacts HO.out) hm3
      refine hK.out _ _ HSC ?_
      clear hK K
      try simp only [Act.put, List.setIfInBounds_toArray, List.set_cons_zero, List.set_cons_succ]
      refine Rg.Upto.one (i := 15) rfl (by kernel_rfl) (by rfl) (fun K hK => ?_)
      go_simp
      refine hK.out _ _ HSC ?_
      clear hK K
      try simp only [Act.put, List.setIfInBounds_toArray, List.set_cons_zero, List.set_cons_succ]
      refine Rg.Upto.take (i := 16) (v := ?_) rfl (by kernel_rfl) (by kernel_rfl) (by kernel_rfl) (by kernel_rfl) (fun _ _ _ h => h) (by rfl) (fun w5 hS5 => ?_) HSC ?_
      rotate_left
      · obtain ⟨⟨s2, s3, s4⟩, s5⟩ := hS5
        go_simp
        try rfl
      try simp only [Act.put, List.setIfInBounds_toArray, List.set_cons_zero, List.set_cons_succ]
      refine Rg.Upto.take (i := 17) (v := ?_) rfl (by kernel_rfl) (by kernel_rfl) (by kernel_rfl) (by kernel_rfl) (fun _ _ _ h => h) (by rfl) (fun w5 hS5 => ?_) HSC ?_
      rotate_left
      · obtain ⟨⟨s2, s3, s4⟩, s5⟩ := hS5
        go_simp
        try rfl
      try simp only [Act.put, List.setIfInBounds_toArray, List.set_cons_zero, List.set_cons_succ]
      refine Rg.Upto.take (i := 18) (v := ?_) rfl (by kernel_rfl) (by kernel_rfl) (by kernel_rfl) (by kernel_rfl) (fun _ _ _ h => h) (by rfl) (fun w5 hS5 => ?_) HSC ?_
      rotate_left
      · obtain ⟨⟨s2, s3, s4⟩, s5⟩ := hS5
        go_simp
        try rfl
      try simp only [Act.put, List.setIfInBounds_toArray, List.set_cons_zero, List.set_cons_succ]
      refine Rg.Upto.take (i := 19) (v := ?_) rfl (by kernel_rfl) (by kernel_rfl) (by kernel_rfl) (by kernel_rfl) (fun _ _ _ h => h) (by rfl) (fun w5 hS5 => ?_) HSC ?_
      rotate_left
      · obtain ⟨⟨s2, s3, s4⟩, s5⟩ := hS5
        go_simp
        try rfl
      try simp only [Act.put, List.setIfInBounds_toArray, List.set_cons_zero, List.set_cons_succ]
      refine Rg.Upto.one (i := 20) rfl (by kernel_rfl) (by rfl) (fun K hK => ?_)
      go_simp
      refine hK.out _ _ HSC ?_
      clear hK K
      try simp only [Act.put, List.setIfInBounds_toArray, List.set_cons_zero, List.set_cons_succ]
      refine Rg.Upto.one (i := 21) rfl (by kernel_rfl) (by rfl) (fun K hK => ?_)
      go_simp
      refine hK.out _ _ HSC ?_
      clear hK K
      try simp only [Act.put, List.setIfInBounds_toArray, List.set_cons_zero, List.set_cons_succ]
      refine Rg.Upto.last rfl (by kernel_rfl) (by kernel_rfl) (by rfl) (fun K hK => ?_)
      go_simp
      refine hK.out _ _ ?_
      clear hK K
      go_wp2
      go_ret
      exact ⟨rfl, _, _, false, HD.out, HRN.out, HLE.out⟩
    · rw [decide_eq_false he] at hcb
      have z2 : (x == o3) = false := by simpa using he
      clear he
      subst hcb
      have HSC : (w6.drew.cell? ⟨w.heap.size, 2, none⟩ = some (.int .i64 o2) ∧ w6.drew.cell? ⟨w.heap.size, 3, none⟩ = some (.int .u64 o3) ∧ w6.drew.cell? ⟨w.heap.size, 4, none⟩ = some (.int .u64 o4)) ∧ w6.drew.cell? ⟨m, 1, none⟩ = some (.slice A2 L2 cap2) := ⟨ofacts HO.out, hm2⟩
      refine Rg.Upto.start (fun w' => (w'.cell? ⟨w.heap.size, 2, none⟩ = some (.int .i64 o2) ∧ w'.cell? ⟨w.heap.size, 3, none⟩ = some (.int .u64 o3) ∧ w'.cell? ⟨w.heap.size, 4, none⟩ = some (.int .u64 o4)) ∧ w'.cell? ⟨m, 1, none⟩ = some (.slice A2 L2 cap2)) 22 (by kernel_rfl) HSC (fun HS => ?_)
      refine Rg.Upto.take (i := 0) (v := ?_) rfl (by kernel_rfl) (by kernel_rfl) (by kernel_rfl) (by kernel_rfl) (fun _ _ _ h => h) (by rfl) (fun w5 hS5 => ?_) HSC ?_
      rotate_left
      · obtain ⟨⟨s2, s3, s4⟩, s5⟩ := hS5
        go_simp
        try rfl
      try simp only [Act.put, List.setIfInBounds_toArray, List.set_cons_zero, List.set_cons_succ]
      refine Rg.Upto.take (i := 1) (v := ?_) rfl (by kernel_rfl) (by kernel_rfl) (by kernel_rfl) (by kernel_rfl) (fun _ _ _ h => h) (by rfl) (fun w5 hS5 => ?_) HSC ?_
      rotate_left
      · obtain ⟨⟨s2, s3, s4⟩, s5⟩ := hS5
        go_simp
        try rfl
      try simp only [Act.put, List.setIfInBounds_toArray, List.set_cons_zero, List.set_cons_succ]
      refine Rg.Upto.take (i := 2) (v := ?_) rfl (by kernel_rfl) (by kernel_rfl) (by kernel_rfl) (by kernel_rfl) (fun _ _ _ h => h) (by rfl) (fun w5 hS5 => ?_) HSC ?_
      rotate_left
      · obtain ⟨⟨s2, s3, s4⟩, s5⟩ := hS5
        go_simp
        try rfl
      try simp only [Act.put, List.setIfInBounds_toArray, List.set_cons_zero, List.set_cons_succ]
      refine Rg.Upto.take (i := 3) (v := ?_) rfl (by kernel_rfl) (by kernel_rfl) (by kernel_rfl) (by kernel_rfl) (fun _ _ _ h => h) (by rfl) (fun w5 hS5 => ?_) HSC ?_
      rotate_left
      · obtain ⟨⟨s2, s3, s4⟩, s5⟩ := hS5
        go_simp
        try rfl
      try simp only [Act.put, List.setIfInBounds_toArray, List.set_cons_zero, List.set_cons_succ]
      refine Rg.Upto.take (i := 4) (v := ?_) rfl (by kernel_rfl) (by kernel_rfl) (by kernel_rfl) (by kernel_rfl) (fun _ _ _ h => h) (by rfl) (fun w5 hS5 => ?_) HSC ?_
      rotate_left
      · obtain ⟨⟨s2, s3, s4⟩, s5⟩ := hS5
        go_simp
        try rfl
      try simp only [Act.put, List.setIfInBounds_toArray, List.set_cons_zero, List.set_cons_succ]
      refine Rg.Upto.take (i := 5) (v := ?_) rfl (by kernel_rfl) (by kernel_rfl) (by kernel_rfl) (by kernel_rfl) (fun _ _ _ h => h) (by rfl) (fun w5 hS5 => ?_) HSC ?_
      rotate_left
      · obtain ⟨⟨s2, s3, s4⟩, s5⟩ := hS5
        go_simp
        try rfl
      try simp only [Act.put, List.setIfInBounds_toArray, List.set_cons_zero, List.set_cons_succ]
      refine Rg.Upto.take (i := 6) (v := ?_) rfl (by kernel_rfl) (by kernel_rfl) (by kernel_rfl) (by kernel_rfl) (fun _ _ _ h => h) (by rfl) (fun w5 hS5 => ?_) HSC ?_
      rotate_left
      · obtain ⟨⟨s2, s3, s4⟩, s5⟩ := hS5
        go_simp
        try rfl
      try simp only [Act.put, List.setIfInBounds_toArray, List.set_cons_zero, List.set_cons_succ]
      refine Rg.Upto.take (i := 8) (v := ?_) rfl (by kernel_rfl) (by kernel_rfl) (by kernel_rfl) (by kernel_rfl) (fun _ _ _ h => h) (by rfl) (fun w5 hS5 => ?_) HSC ?_
      rotate_left
      · obtain ⟨⟨s2, s3, s4⟩, s5⟩ := hS5
        go_simp
        try rfl
      try simp only [Act.put, List.setIfInBounds_toArray, List.set_cons_zero, List.set_cons_succ]
      refine Rg.Upto.take (i := 9) (v := ?_) rfl (by kernel_rfl) (by kernel_rfl) (by kernel_rfl) (by kernel_rfl) (fun _ _ _ h => h) (by rfl) (fun w5 hS5 => ?_) HSC ?_
      rotate_left
      · obtain ⟨⟨s2, s3, s4⟩, s5⟩ := hS5
        go_simp
        try rfl
      try simp only [Act.put, List.setIfInBounds_toArray, List.set_cons_zero, List.set_cons_succ]
      refine Rg.Upto.take (i := 10) (v := ?_) rfl (by kernel_rfl) (by kernel_rfl) (by kernel_rfl) (by kernel_rfl) (fun _ _ _ h => h) (by rfl) (fun w5 hS5 => ?_) HSC ?_
      rotate_left
      · obtain ⟨⟨s2, s3, s4⟩, s5⟩ := hS5
        go_simp
        try rfl
      try simp only [Act.put, List.setIfInBounds_toArray, List.set_cons_zero, List.set_cons_succ]
      refine Rg.Upto.take (i := 11) (v := ?_) rfl (by kernel_rfl) (by kernel_rfl) (by kernel_rfl) (by kernel_rfl) (fun _ _ _ h => h) (by rfl) (fun w5 hS5 => ?_) HSC ?_
      rotate_left
      · obtain ⟨⟨s2, s3, s4⟩, s5⟩ := hS5
        go_simp
        try rfl
      try simp only [Act.put, List.setIfInBounds_toArray, List.set_cons_zero, List.set_cons_succ]
      refine Rg.Upto.take (i := 12) (v := ?_) rfl (by kernel_rfl) (by kernel_rfl) (by kernel_rfl) (by kernel_rfl) (fun _ _ _ h => h) (by rfl) (fun w5 hS5 => ?_) HSC ?_
      rotate_left
      · obtain ⟨⟨s2, s3, s4⟩, s5⟩ := hS5
        go_simp
        try rfl
      try simp only [Act.put, List.setIfInBounds_toArray, List.set_cons_zero, List.set_cons_succ]
      refine Rg.Upto.take (i := 13) (v := ?_) rfl (by kernel_rfl) (by kernel_rfl) (by kernel_rfl) (by kernel_rfl) (fun _ _ _ h => h) (by rfl) (fun w5 hS5 => ?_) HSC ?_
      rotate_left
      · obtain ⟨⟨s2, s3, s4⟩, s5⟩ := hS5
        go_simp
        try rfl
      try simp only [Act.put, List.setIfInBounds_toArray, List.set_cons_zero, List.set_cons_succ]
      refine Rg.Upto.take (i := 14) (v := ?_) rfl (by kernel_rfl) (by kernel_rfl) (by kernel_rfl) (by kernel_rfl) (fun _ _ _ h => h) (by rfl) (fun w5 hS5 => ?_) HSC ?_
      rotate_left
      · obtain ⟨⟨s2, s3, s4⟩, s5⟩ := hS5
        go_simp
        try rfl
      try simp only [Act.put, List.setIfInBounds_toArray, List.set_cons_zero, List.set_cons_succ]
      refine Rg.Upto.one (i := 7) rfl (by kernel_rfl) (by rfl) (fun K hK => ?_)
      go_simp
      have hcm := HD.out.duo.casM i o2 o3 o4 HI.out (by omega)
      rw [← HCB.out] at hcm
      refine hcm.mono ?_
      clear hcm
      rintro e w7 ⟨rfl, hD, hmb⟩
      have HO5 := Lib.hid ((hD.fr.block _ (blk_lt HO.out) (not_touchD HO.out ⟨hwc, hwc2⟩ (by decide))).trans HO.out)
      replace HO := HO5
      have hm3 : w7.cell? ⟨m, 1, none⟩ = some (.slice A2 L2 cap2) := by
        have := HSC.2
        simp only [World.cell?] at this ⊢
        rw [hmb]
        exact this
      replace HD := Lib.hid (HD.out.trans hD)
      clear hD hmb HSC HS
      have HSC := And.intro (ofacts HO.out) hm3
      refine hK.out _ _ HSC ?_
      clear hK K
      try simp only [Act.put, List.setIfInBounds_toArray, List.set_cons_zero, List.set_cons_succ]
      refine Rg.Upto.one (i := 15) rfl (by kernel_rfl) (by rfl) (fun K hK => ?_)
      go_simp
      refine hK.out _ _ HSC ?_
      clear hK K
      try simp only [Act.put, List.setIfInBounds_toArray, List.set_cons_zero, List.set_cons_succ]
      refine Rg.Upto.take (i := 16) (v := ?_) rfl (by kernel_rfl) (by kernel_rfl) (by kernel_rfl) (by kernel_rfl) (fun _ _ _ h => h) (by rfl) (fun w5 hS5 => ?_) HSC ?_
      rotate_left
      · obtain ⟨⟨s2, s3, s4⟩, s5⟩ := hS5
        go_simp
        try rfl
      try simp only [Act.put, List.setIfInBounds_toArray, List.set_cons_zero, List.set_cons_succ]
      refine Rg.Upto.take (i := 17) (v := ?_) rfl (by kernel_rfl) (by kernel_rfl) (by kernel_rfl) (by kernel_rfl) (fun _ _ _ h => h) (by rfl) (fun w5 hS5 => ?_) HSC ?_
      rotate_left
      · obtain ⟨⟨s2, s3, s4⟩, s5⟩ := hS5
        go_simp
        try rfl
      try simp only [Act.put, List.setIfInBounds_toArray, List.set_cons_zero, List.set_cons_succ]
      refine Rg.Upto.take (i := 18) (v := ?_) rfl (by kernel_rfl) (by kernel_rfl) (by kernel_rfl) (by kernel_rfl) (fun _ _ _ h => h) (by rfl) (fun w5 hS5 => ?_) HSC ?_
      rotate_left
      · obtain ⟨⟨s2, s3, s4⟩, s5⟩ := hS5
        go_simp
        try rfl
      try simp only [Act.put, List.setIfInBounds_toArray, List.set_cons_zero, List.set_cons_succ]
      refine Rg.Upto.take (i := 19) (v := ?_) rfl (by kernel_rfl) (by kernel_rfl) (by kernel_rfl) (by kernel_rfl) (fun _ _ _ h => h) (by rfl) (fun w5 hS5 => ?_) HSC ?_
      rotate_left
      · obtain ⟨⟨s2, s3, s4⟩, s5⟩ := hS5
        go_simp
        try rfl
      try simp only [Act.put, List.setIfInBounds_toArray, List.set_cons_zero, List.set_cons_succ]
      refine Rg.Upto.one (i := 20) rfl (by kernel_rfl) (by rfl) (fun K hK => ?_)
      go_simp
      refine hK.out _ _ HSC ?_
      clear hK K
      try simp only [Act.put, List.setIfInBounds_toArray, List.set_cons_zero, List.set_cons_succ]
      refine Rg.Upto.one (i := 21) rfl (by kernel_rfl) (by rfl) (fun K hK => ?_)
      go_simp
      refine hK.out _ _ HSC ?_
      clear hK K
      try simp only [Act.put, List.setIfInBounds_toArray, List.set_cons_zero, List.set_cons_succ]
      refine Rg.Upto.last rfl (by kernel_rfl) (by kernel_rfl) (by rfl) (fun K hK => ?_)
      go_simp
      refine hK.out _ _ ?_
      clear hK K
      go_wp2
      go_ret
      exact ⟨rfl, _, _, false, HD.out, HRN.out, HLE.out⟩
  · rw [if_neg hm] at hln
    rw [hhas, decide_eq_false hm, Bool.false_and] at hcb
    have z1 : decide ((L : Int) < (L2 : Int)) = false := decide_eq_false (by omega)
    have z1n : decide (L < L2) = false := decide_eq_false (by omega)
    clear hln hm hcas hhas
    subst hcb
    have HSC : (w6.drew.cell? ⟨w.heap.size, 2, none⟩ = some (.int .i64 o2) ∧ w6.drew.cell? ⟨w.heap.size, 3, none⟩ = some (.int .u64 o3) ∧ w6.drew.cell? ⟨w.heap.size, 4, none⟩ = some (.int .u64 o4)) ∧ w6.drew.cell? ⟨m, 1, none⟩ = some (.slice A2 L2 cap2) := ⟨ofacts HO.out, hm2⟩
    refine Rg.Upto.start (fun w' => (w'.cell? ⟨w.heap.size, 2, none⟩ = some (.int .i64 o2) ∧ w'.cell? ⟨w.heap.size, 3, none⟩ = some (.int .u64 o3) ∧ w'.cell? ⟨w.heap.size, 4, none⟩ = some (.int .u64 o4)) ∧ w'.cell? ⟨m, 1, none⟩ = some (.slice A2 L2 cap2)) 22 (by kernel_rfl) HSC (fun HS => ?_)
    refine Rg.Upto.take (i := 0) (v := ?_) rfl (by kernel_rfl) (by kernel_rfl) (by kernel_rfl) (by kernel_rfl) (fun _ _ _ h => h) (by rfl) (fun w5 hS5 => ?_) HSC ?_
    rotate_left
    · obtain ⟨⟨s2, s3, s4⟩, s5⟩ := hS5
      go_simp
      try rfl
    try simp only [Act.put, List.setIfInBounds_toArray, List.set_cons_zero, List.set_cons_succ]
    refine Rg.Upto.take (i := 1) (v := ?_) rfl (by kernel_rfl) (by kernel_rfl) (by kernel_rfl) (by kernel_rfl) (fun _ _ _ h => h) (by rfl) (fun w5 hS5 => ?_) HSC ?_
    rotate_left
    · obtain ⟨⟨s2, s3, s4⟩, s5⟩ := hS5
      go_simp
      try rfl
    try simp only [Act.put, List.setIfInBounds_toArray, List.set_cons_zero, List.set_cons_succ]
    refine Rg.Upto.take (i := 2) (v := ?_) rfl (by kernel_rfl) (by kernel_rfl) (by kernel_rfl) (by kernel_rfl) (fun _ _ _ h => h) (by rfl) (fun w5 hS5 => ?_) HSC ?_
    rotate_left
    · obtain ⟨⟨s2, s3, s4⟩, s5⟩ := hS5
      go_simp
      try rfl
    try simp only [Act.put, List.setIfInBounds_toArray, List.set_cons_zero, List.set_cons_succ]
    refine Rg.Upto.take (i := 3) (v := ?_) rfl (by kernel_rfl) (by kernel_rfl) (by kernel_rfl) (by kernel_rfl) (fun _ _ _ h => h) (by rfl) (fun w5 hS5 => ?_) HSC ?_
    rotate_left
    · obtain ⟨⟨s2, s3, s4⟩, s5⟩ := hS5
      go_simp
      try rfl
    try simp only [Act.put, List.setIfInBounds_toArray, List.set_cons_zero, List.set_cons_succ]
    refine Rg.Upto.take (i := 4) (v := ?_) rfl (by kernel_rfl) (by kernel_rfl) (by kernel_rfl) (by kernel_rfl) (fun _ _ _ h => h) (by rfl) (fun w5 hS5 => ?_) HSC ?_
    rotate_left
    · obtain ⟨⟨s2, s3, s4⟩, s5⟩ := hS5
      go_simp
      try rfl
    try simp only [Act.put, List.setIfInBounds_toArray, List.set_cons_zero, List.set_cons_succ]
    refine Rg.Upto.take (i := 5) (v := ?_) rfl (by kernel_rfl) (by kernel_rfl) (by kernel_rfl) (by kernel_rfl) (fun _ _ _ h => h) (by rfl) (fun w5 hS5 => ?_) HSC ?_
    rotate_left
    · obtain ⟨⟨s2, s3, s4⟩, s5⟩ := hS5
      go_simp
      try rfl
    try simp only [Act.put, List.setIfInBounds_toArray, List.set_cons_zero, List.set_cons_succ]
    refine Rg.Upto.take (i := 6) (v := ?_) rfl (by kernel_rfl) (by kernel_rfl) (by kernel_rfl) (by kernel_rfl) (fun _ _ _ h => h) (by rfl) (fun w5 hS5 => ?_) HSC ?_
    rotate_left
    · obtain ⟨⟨s2, s3, s4⟩, s5⟩ := hS5
      go_simp
      try rfl
    try simp only [Act.put, List.setIfInBounds_toArray, List.set_cons_zero, List.set_cons_succ]
    refine Rg.Upto.take (i := 8) (v := ?_) rfl (by kernel_rfl) (by kernel_rfl) (by kernel_rfl) (by kernel_rfl) (fun _ _ _ h => h) (by rfl) (fun w5 hS5 => ?_) HSC ?_
    rotate_left
    · obtain ⟨⟨s2, s3, s4⟩, s5⟩ := hS5
      go_simp
      try rfl
    try simp only [Act.put, List.setIfInBounds_toArray, List.set_cons_zero, List.set_cons_succ]
    refine Rg.Upto.take (i := 9) (v := ?_) rfl (by kernel_rfl) (by kernel_rfl) (by kernel_rfl) (by kernel_rfl) (fun _ _ _ h => h) (by rfl) (fun w5 hS5 => ?_) HSC ?_
    rotate_left
    · obtain ⟨⟨s2, s3, s4⟩, s5⟩ := hS5
      go_simp
      try rfl
    try simp only [Act.put, List.setIfInBounds_toArray, List.set_cons_zero, List.set_cons_succ]
    refine Rg.Upto.take (i := 10) (v := ?_) rfl (by kernel_rfl) (by kernel_rfl) (by kernel_rfl) (by kernel_rfl) (fun _ _ _ h => h) (by rfl) (fun w5 hS5 => ?_) HSC ?_
    rotate_left
    · obtain ⟨⟨s2, s3, s4⟩, s5⟩ := hS5
      go_simp
      try rfl
    try simp only [Act.put, List.setIfInBounds_toArray, List.set_cons_zero, List.set_cons_succ]
    refine Rg.Upto.take (i := 11) (v := ?_) rfl (by kernel_rfl) (by kernel_rfl) (by kernel_rfl) (by kernel_rfl) (fun _ _ _ h => h) (by rfl) (fun w5 hS5 => ?_) HSC ?_
    rotate_left
    · obtain ⟨⟨s2, s3, s4⟩, s5⟩ := hS5
      go_simp
      try rfl
    try simp only [Act.put, List.setIfInBounds_toArray, List.set_cons_zero, List.set_cons_succ]
    refine Rg.Upto.take (i := 12) (v := ?_) rfl (by kernel_rfl) (by kernel_rfl) (by kernel_rfl) (by kernel_rfl) (fun _ _ _ h => h) (by rfl) (fun w5 hS5 => ?_) HSC ?_
    rotate_left
    · obtain ⟨⟨s2, s3, s4⟩, s5⟩ := hS5
      go_simp
      try rfl
    try simp only [Act.put, List.setIfInBounds_toArray, List.set_cons_zero, List.set_cons_succ]
    refine Rg.Upto.take (i := 13) (v := ?_) rfl (by kernel_rfl) (by kernel_rfl) (by kernel_rfl) (by kernel_rfl) (fun _ _ _ h => h) (by rfl) (fun w5 hS5 => ?_) HSC ?_
    rotate_left
    · obtain ⟨⟨s2, s3, s4⟩, s5⟩ := hS5
      go_simp
      try rfl
    try simp only [Act.put, List.setIfInBounds_toArray, List.set_cons_zero, List.set_cons_succ]
    refine Rg.Upto.take (i := 14) (v := ?_) rfl (by kernel_rfl) (by kernel_rfl) (by kernel_rfl) (by kernel_rfl) (fun _ _ _ h => h) (by rfl) (fun w5 hS5 => ?_) HSC ?_
    rotate_left
    · obtain ⟨⟨s2, s3, s4⟩, s5⟩ := hS5
      go_simp
      try rfl
    try simp only [Act.put, List.setIfInBounds_toArray, List.set_cons_zero, List.set_cons_succ]
    refine Rg.Upto.one (i := 7) rfl (by kernel_rfl) (by rfl) (fun K hK => ?_)
    go_simp
    have hcm := HD.out.duo.casM i o2 o3 o4 HI.out (by omega)
    rw [← HCB.out] at hcm
    refine hcm.mono ?_
    clear hcm
    rintro e w7 ⟨rfl, hD, hmb⟩
    have HO5 := Lib.hid ((hD.fr.block _ (blk_lt HO.out) (not_touchD HO.out ⟨hwc, hwc2⟩ (by decide))).trans HO.out)
    replace HO := HO5
    have hm3 : w7.cell? ⟨m, 1, none⟩ = some (.slice A2 L2 cap2) := by
      have := HSC.2
      simp only [World.cell?] at this ⊢
      rw [hmb]
      exact this
    replace HD := Lib.hid (HD.out.trans hD)
    clear hD hmb HSC HS
    have HSC := And.intro (ofacts HO.out) hm3
    refine hK.out _ _ HSC ?_
    clear hK K
    try simp only [Act.put, List.setIfInBounds_toArray, List.set_cons_zero, List.set_cons_succ]
    refine Rg.Upto.one (i := 15) rfl (by kernel_rfl) (by rfl) (fun K hK => ?_)
    go_simp
    refine hK.out _ _ HSC ?_
    clear hK K
    try simp only [Act.put, List.setIfInBounds_toArray, List.set_cons_zero, List.set_cons_succ]
    refine Rg.Upto.skip (i := 16) rfl (by kernel_rfl) (by kernel_rfl) (by kernel_rfl) (by kernel_rfl) (fun _ _ _ h => h) (by rfl) HSC ?_
    try simp only [Act.put, List.setIfInBounds_toArray, List.set_cons_zero, List.set_cons_succ]
    refine Rg.Upto.skip (i := 17) rfl (by kernel_rfl) (by kernel_rfl) (by kernel_rfl) (by kernel_rfl) (fun _ _ _ h => h) (by rfl) HSC ?_
    try simp only [Act.put, List.setIfInBounds_toArray, List.set_cons_zero, List.set_cons_succ]
    refine Rg.Upto.skip (i := 18) rfl (by kernel_rfl) (by kernel_rfl) (by kernel_rfl) (by kernel_rfl) (fun _ _ _ h => h) (by rfl) HSC ?_
    try simp only [Act.put, List.setIfInBounds_toArray, List.set_cons_zero, List.set_cons_succ]
    refine Rg.Upto.skip (i := 19) rfl (by kernel_rfl) (by kernel_rfl) (by kernel_rfl) (by kernel_rfl) (fun _ _ _ h => h) (by rfl) HSC ?_
    try simp only [Act.put, List.setIfInBounds_toArray, List.set_cons_zero, List.set_cons_succ]
    refine Rg.Upto.one (i := 20) rfl (by kernel_rfl) (by rfl) (fun K hK => ?_)
    go_simp
    refine hK.out _ _ HSC ?_
    clear hK K
    try simp only [Act.put, List.setIfInBounds_toArray, List.set_cons_zero, List.set_cons_succ]
    refine Rg.Upto.one (i := 21) rfl (by kernel_rfl) (by rfl) (fun K hK => ?_)
    go_simp
    refine hK.out _ _ HSC ?_
    clear hK K
    try simp only [Act.put, List.setIfInBounds_toArray, List.set_cons_zero, List.set_cons_succ]
    refine Rg.Upto.last rfl (by kernel_rfl) (by kernel_rfl) (by rfl) (fun K hK => ?_)
    go_simp
    refine hK.out _ _ ?_
    clear hK K
    go_wp2
    go_ret
    exact ⟨rfl, _, _, false, HD.out, HRN.out, HLE.out⟩

set_option maxHeartbeats 8000000 in
set_option maxRecDepth 100000 in
theorem one8 (K : Bool) (B : Nat) (w : World) (a c m c2 i p q : Nat) (s t : AS) (ps qs : List (Nat × Int × Bool)) (who : Int) (g : Bool) (o0 o2 o3 o4 : Int) (h : Duo B w a c s ps m c2 t qs) (hi : ps[i]? = some (p, who, g)) (hj : qs[i]? = some (q, who, g)) (hR : Rel K s t) (hl : t.log.length ≤ 1000) :
    Calls Try.prog 30 #[.pointer (some ⟨a, 0, none⟩), .pointer (some ⟨p, 0, none⟩), .pointer (some ⟨m, 0, none⟩), .pointer (some ⟨q, 0, none⟩), .agg #[.int .i64 o0, .int .i64 8, .int .i64 o2, .int .u64 o3, .int .u64 o4]] w (OnePost K B w a c i p q who ps m c2 t qs) := by
  have hsl : s.log.length ≤ 1000 := by rw [hR.log]; split <;> simp [hl]
  have HI := Lib.hid hi
  have HJ := Lib.hid hj
  have HRL := Lib.hid hR
  obtain ⟨hwc, hwc2⟩ : w.heap.size ≠ c ∧ w.heap.size ≠ c2 := by
    obtain ⟨lv, lv2, hA, hM, _⟩ := h.both
    have := blk_lt hA.cel
    have := blk_lt hM.cel
    omega
  have HD := Lib.hid (h.start (.cells #[.int .i64 o0, .int .i64 8, .int .i64 o2, .int .u64 o3, .int .u64 o4] 25))
  have HO := Lib.hid (Hp.blk_new w (.cells #[.int .i64 o0, .int .i64 8, .int .i64 o2, .int .u64 o3, .int .u64 o4] 25))
  have hNT : ¬ TouchD c c2 (w.alloc (.cells #[.int .i64 o0, .int .i64 8, .int .i64 o2, .int .u64 o3, .int .u64 o4] 25)) w.heap.size := not_touchD HO.out ⟨hwc, hwc2⟩ (by decide)
  clear h hi hj hR

  have hcl := HRL.out.cells
  have hsh : s.has o2 = t.has o2 := by unfold AS.has; rw [hcl]
  obtain ⟨n, hn⟩ : ∃ n, n = t.cells.length := ⟨_, rfl⟩
  obtain ⟨hm0, hmc⟩ := mcell HD.out.duo
  rw [← hn] at hm0 hmc
  have hhd : t.has o2 = decide (0 ≤ o2 ∧ o2 < (n : Int)) := by rw [hn]; rfl
  have hnm : n ≤ 4096 := by
    obtain ⟨lv, lv2, hA, hM, _⟩ := HD.out.duo.both
    rw [hn]
    exact hM.small
  have HMC := Lib.hid hmc
  have HSH := Lib.hid hsh
  have HHD := Lib.hid hhd
  have HN := Lib.hid hn
  clear hcl hsh hhd hmc hn
  by_cases h0 : 0 ≤ o2
  · by_cases h1 : o2 < (n : Int)
    · obtain ⟨k, rfl⟩ := Int.eq_ofNat_of_zero_le h0
      have hk : k < n := by omega
      obtain ⟨mc, mf⟩ := HMC.out k hk
      have hhas : t.has (k : Int) = true := by rw [HHD.out]; exact decide_eq_true ⟨h0, h1⟩
      have q0 : decide (0 ≤ (k : Int)) = true := decide_eq_true h0
      have q1 : decide ((k : Int) < (n : Int)) = true := decide_eq_true h1
      have q1n : decide (k < n) = true := decide_eq_true hk
      go_enter Try.func30, Try.ntmps30
      go_wp2_with (fail)
      go_quiet (fail)
      rename_i nq
      go_wp2_with (fail)
      replace HD := Lib.hid (HD.out.drewN nq)
      replace HO := Lib.hid (drewN_blk HO.out nq)
      replace HD := Lib.hid HD.out.drew
      replace HO := Lib.hid (drew_blk HO.out)
      have hset := HD.out.trans (HD.out.duo.setM (k : Int) o4)
      rw [Int.toNat_natCast] at hset
      have HD2 := Lib.hid hset
      have HSC := And.intro (ofacts HO.out) (mcell HD.out.duo).1
      rw [← HN.out] at HSC
      obtain ⟨mc2, mf2⟩ := (mcell HD.out.duo).2 k (by rw [← HN.out]; exact hk)
      clear hset
      refine Rg.Upto.start (fun w' => (w'.cell? ⟨w.heap.size, 2, none⟩ = some (.int .i64 (k : Int)) ∧ w'.cell? ⟨w.heap.size, 3, none⟩ = some (.int .u64 o3) ∧ w'.cell? ⟨w.heap.size, 4, none⟩ = some (.int .u64 o4)) ∧ w'.cell? ⟨m, 0, none⟩ = some (.slice (some ⟨c2, 0, none⟩) n n)) 9 (by kernel_rfl) HSC (fun HS => ?_)
      refine Rg.Upto.take (i := 0) (v := ?_) rfl (by kernel_rfl) (by kernel_rfl) (by kernel_rfl) (by kernel_rfl) (fun _ _ _ h => h) (by rfl) (fun w5 hS5 => ?_) HSC ?_
      rotate_left
      · obtain ⟨⟨s2, s3, s4⟩, s5⟩ := hS5
        go_simp
        try rfl
      try simp only [Act.put, List.setIfInBounds_toArray, List.set_cons_zero, List.set_cons_succ]
      refine Rg.Upto.take (i := 1) (v := ?_) rfl (by kernel_rfl) (by kernel_rfl) (by kernel_rfl) (by kernel_rfl) (fun _ _ _ h => h) (by rfl) (fun w5 hS5 => ?_) HSC ?_
      rotate_left
      · obtain ⟨⟨s2, s3, s4⟩, s5⟩ := hS5
        go_simp
        try rfl
      try simp only [Act.put, List.setIfInBounds_toArray, List.set_cons_zero, List.set_cons_succ]
      refine Rg.Upto.take (i := 2) (v := ?_) rfl (by kernel_rfl) (by kernel_rfl) (by kernel_rfl) (by kernel_rfl) (fun _ _ _ h => h) (by rfl) (fun w5 hS5 => ?_) HSC ?_
      rotate_left
      · obtain ⟨⟨s2, s3, s4⟩, s5⟩ := hS5
        go_simp
        try rfl
      try simp only [Act.put, List.setIfInBounds_toArray, List.set_cons_zero, List.set_cons_succ]
      refine Rg.Upto.take (i := 3) (v := ?_) rfl (by kernel_rfl) (by kernel_rfl) (by kernel_rfl) (by kernel_rfl) (fun _ _ _ h => h) (by rfl) (fun w5 hS5 => ?_) HSC ?_
      rotate_left
      · obtain ⟨⟨s2, s3, s4⟩, s5⟩ := hS5
        go_simp
        try rfl
      try simp only [Act.put, List.setIfInBounds_toArray, List.set_cons_zero, List.set_cons_succ]
      refine Rg.Upto.take (i := 4) (v := ?_) rfl (by kernel_rfl) (by kernel_rfl) (by kernel_rfl) (by kernel_rfl) (fun _ _ _ h => h) (by rfl) (fun w5 hS5 => ?_) HSC ?_
      rotate_left
      · obtain ⟨⟨s2, s3, s4⟩, s5⟩ := hS5
        go_simp
        try rfl
      try simp only [Act.put, List.setIfInBounds_toArray, List.set_cons_zero, List.set_cons_succ]
      refine Rg.Upto.take (i := 5) (v := ?_) rfl (by kernel_rfl) (by kernel_rfl) (by kernel_rfl) (by kernel_rfl) (fun _ _ _ h => h) (by rfl) (fun w5 hS5 => ?_) HSC ?_
      rotate_left
      · obtain ⟨⟨s2, s3, s4⟩, s5⟩ := hS5
        go_simp
        try rfl
      try simp only [Act.put, List.setIfInBounds_toArray, List.set_cons_zero, List.set_cons_succ]
      refine Rg.Upto.take (i := 6) (v := ?_) rfl (by kernel_rfl) (by kernel_rfl) (by kernel_rfl) (by kernel_rfl) (fun _ _ _ h => h) (by rfl) (fun w5 hS5 => ?_) HSC ?_
      rotate_left
      · obtain ⟨⟨s2, s3, s4⟩, s5⟩ := hS5
        go_simp
        try rfl
      try simp only [Act.put, List.setIfInBounds_toArray, List.set_cons_zero, List.set_cons_succ]
      refine Rg.Upto.take (i := 7) (v := ?_) rfl (by kernel_rfl) (by kernel_rfl) (by kernel_rfl) (by kernel_rfl) (fun _ _ _ h => h) (by rfl) (fun w5 hS5 => ?_) HSC ?_
      rotate_left
      · obtain ⟨⟨s2, s3, s4⟩, s5⟩ := hS5
        go_simp
        try rfl
      try simp only [Act.put, List.setIfInBounds_toArray, List.set_cons_zero, List.set_cons_succ]
      refine Rg.Upto.take (i := 8) (v := ?_) rfl (by kernel_rfl) (by kernel_rfl) (by kernel_rfl) (by kernel_rfl) (fun _ _ _ h => h) (by rfl) (fun w5 hS5 => ?_) HSC ?_
      rotate_left
      · obtain ⟨⟨s2, s3, s4⟩, s5⟩ := hS5
        go_simp
        try rfl
      try simp only [Act.put, List.setIfInBounds_toArray, List.set_cons_zero, List.set_cons_succ]
      refine Rg.Upto.last rfl (by kernel_rfl) (by kernel_rfl) (by rfl) (fun K hK => ?_)
      go_simp
      refine hK.out _ _ ?_
      clear hK K
      have HPK := Lib.hid (HD2.out.duo.poke (k : Int) o4 (by rw [HSH.out]; exact hhas))
      go_wp2_with (first
        | (go_at_call 11; go_loud (refine HPK.out.mono ?_; rintro e w5 ⟨rfl, hD⟩; (have HD3 := Lib.hid (HD2.out.trans hD)); clear hD)))
      go_ret
      exact ⟨rfl, _, _, g, by rw [set_same HI.out, set_same HJ.out]; exact HD3.out, HRL.out.poke _ _, Nat.le_succ _⟩
    · have hhas : t.has o2 = false := by rw [HHD.out]; exact decide_eq_false (fun z => h1 z.2)
      have q0 : decide (0 ≤ o2) = true := decide_eq_true h0
      have q1 : decide (o2 < (n : Int)) = false := decide_eq_false h1
      go_enter Try.func30, Try.ntmps30
      go_wp2_with (fail)
      go_quiet (fail)
      rename_i nq
      replace HD := Lib.hid (HD.out.drewN nq)
      have HPO := Lib.hid (HD.out.duo.sys.poke_out o2 o4 (by rw [HSH.out]; exact hhas))
      go_wp2_with (first
        | (go_at_call 11; go_loud (with_reducible refine HPO.out.mono ?_; rintro e w5 ⟨rfl, rfl⟩)))
      go_ret
      exact ⟨rfl, _, _, g, by rw [set_same HI.out, set_same HJ.out]; exact HD.out, HRL.out, Nat.le_succ _⟩
  · have hhas : t.has o2 = false := by rw [HHD.out]; exact decide_eq_false (fun z => h0 z.1)
    have q0 : decide (0 ≤ o2) = false := decide_eq_false h0
    go_enter Try.func30, Try.ntmps30
    go_wp2_with (fail)
    go_quiet (fail)
    rename_i nq
    replace HD := Lib.hid (HD.out.drewN nq)
    have HPO := Lib.hid (HD.out.duo.sys.poke_out o2 o4 (by rw [HSH.out]; exact hhas))
    go_wp2_with (first
      | (go_at_call 11; go_loud (with_reducible refine HPO.out.mono ?_; rintro e w5 ⟨rfl, rfl⟩)))
    go_ret
    exact ⟨rfl, _, _, g, by rw [set_same HI.out, set_same HJ.out]; exact HD.out, HRL.out, Nat.le_succ _⟩

set_option maxHeartbeats 8000000 in
set_option maxRecDepth 100000 in
theorem one9 (K : Bool) (B : Nat) (w : World) (a c m c2 i p q : Nat) (s t : AS) (ps qs : List (Nat × Int × Bool)) (who : Int) (g : Bool) (o0 o2 o3 o4 : Int) (h : Duo B w a c s ps m c2 t qs) (hi : ps[i]? = some (p, who, g)) (hj : qs[i]? = some (q, who, g)) (hR : Rel K s t) (hl : t.log.length ≤ 1000) :
    Calls Try.prog 30 #[.pointer (some ⟨a, 0, none⟩), .pointer (some ⟨p, 0, none⟩), .pointer (some ⟨m, 0, none⟩), .pointer (some ⟨q, 0, none⟩), .agg #[.int .i64 o0, .int .i64 9, .int .i64 o2, .int .u64 o3, .int .u64 o4]] w (OnePost K B w a c i p q who ps m c2 t qs) := by
  have hsl : s.log.length ≤ 1000 := by rw [hR.log]; split <;> simp [hl]
  have HI := Lib.hid hi
  have HJ := Lib.hid hj
  have HRL := Lib.hid hR
  obtain ⟨hwc, hwc2⟩ : w.heap.size ≠ c ∧ w.heap.size ≠ c2 := by
    obtain ⟨lv, lv2, hA, hM, _⟩ := h.both
    have := blk_lt hA.cel
    have := blk_lt hM.cel
    omega
  have HD := Lib.hid (h.start (.cells #[.int .i64 o0, .int .i64 9, .int .i64 o2, .int .u64 o3, .int .u64 o4] 25))
  have HO := Lib.hid (Hp.blk_new w (.cells #[.int .i64 o0, .int .i64 9, .int .i64 o2, .int .u64 o3, .int .u64 o4] 25))
  have hNT : ¬ TouchD c c2 (w.alloc (.cells #[.int .i64 o0, .int .i64 9, .int .i64 o2, .int .u64 o3, .int .u64 o4] 25)) w.heap.size := not_touchD HO.out ⟨hwc, hwc2⟩ (by decide)
  clear h hi hj hR

  have hcl := HRL.out.cells
  have hsh : s.has o2 = t.has o2 := by unfold AS.has; rw [hcl]
  obtain ⟨n, hn⟩ : ∃ n, n = t.cells.length := ⟨_, rfl⟩
  obtain ⟨hm0, hmc⟩ := mcell HD.out.duo
  rw [← hn] at hm0 hmc
  have hhd : t.has o2 = decide (0 ≤ o2 ∧ o2 < (n : Int)) := by rw [hn]; rfl
  have hnm : n ≤ 4096 := by
    obtain ⟨lv, lv2, hA, hM, _⟩ := HD.out.duo.both
    rw [hn]
    exact hM.small
  have HMC := Lib.hid hmc
  have HSH := Lib.hid hsh
  have HHD := Lib.hid hhd
  have HN := Lib.hid hn
  clear hcl hsh hhd hmc hn
  by_cases h0 : 0 ≤ o2
  · by_cases h1 : o2 < (n : Int)
    · obtain ⟨k, rfl⟩ := Int.eq_ofNat_of_zero_le h0
      have hk : k < n := by omega
      obtain ⟨mc, mf⟩ := HMC.out k hk
      have hhas : t.has (k : Int) = true := by rw [HHD.out]; exact decide_eq_true ⟨h0, h1⟩
      have q0 : decide ((k : Int) < 0) = false := decide_eq_false (by omega)
      have q1 : decide ((n : Int) ≤ (k : Int)) = false := decide_eq_false (by omega)
      have q1n : decide (n ≤ k) = false := decide_eq_false (by omega)
      obtain ⟨x, hx⟩ : ∃ x, x = t.cells.getD k 0 := ⟨_, rfl⟩
      rw [← hx] at mc
      have hpk := HD.out.duo.sys.peek (k : Int)
      rw [show s.has (k : Int) = true by rw [HSH.out]; exact hhas, if_pos rfl, if_pos rfl, HRL.out.cells, Int.toNat_natCast, ← hx] at hpk
      have HPK := Lib.hid hpk
      clear hpk hx
      go_enter Try.func30, Try.ntmps30
      go_wp2_with (first | (go_at_call 27; go_loud (with_reducible refine HPK.out.mono ?_; rintro e w5 ⟨rfl, n5, rfl⟩)))
      go_quiet (fail)
      go_wp2_with (fail)
      go_quiet (fail)
      go_wp2_with (fail)
      go_ret
      exact ⟨rfl, _, _, g, by rw [set_same HI.out, set_same HJ.out]; first | exact HD.out.drewN _ | exact (HD.out.drewN _).drewN _ | exact ((HD.out.drewN _).drewN _).drewN _, HRL.out, Nat.le_succ _⟩
    · have hhas : t.has o2 = false := by rw [HHD.out]; exact decide_eq_false (fun z => h1 z.2)
      have q0 : decide (o2 < 0) = false := decide_eq_false (by omega)
      have q1 : decide ((n : Int) ≤ o2) = true := decide_eq_true (by omega)
      have hpk := HD.out.duo.sys.peek o2
      rw [show s.has o2 = false by rw [HSH.out]; exact hhas] at hpk
      have HPK := Lib.hid hpk
      clear hpk
      go_enter Try.func30, Try.ntmps30
      go_wp2_with (first | (go_at_call 27; go_loud (with_reducible refine HPK.out.mono ?_; rintro e w5 ⟨rfl, n5, rfl⟩)))
      go_quiet (fail)
      go_wp2_with (fail)
      go_ret
      exact ⟨rfl, _, _, g, by rw [set_same HI.out, set_same HJ.out]; first | exact HD.out.drewN _ | exact (HD.out.drewN _).drewN _ | exact ((HD.out.drewN _).drewN _).drewN _, HRL.out, Nat.le_succ _⟩
  · have hhas : t.has o2 = false := by rw [HHD.out]; exact decide_eq_false (fun z => h0 z.1)
    have q0 : decide (o2 < 0) = true := decide_eq_true (by omega)
    have hpk := HD.out.duo.sys.peek o2
    rw [show s.has o2 = false by rw [HSH.out]; exact hhas] at hpk
    have HPK := Lib.hid hpk
    clear hpk
    go_enter Try.func30, Try.ntmps30
    go_wp2_with (first | (go_at_call 27; go_loud (with_reducible refine HPK.out.mono ?_; rintro e w5 ⟨rfl, n5, rfl⟩)))
    go_quiet (fail)
    go_wp2_with (fail)
    go_ret
    exact ⟨rfl, _, _, g, by rw [set_same HI.out, set_same HJ.out]; first | exact HD.out.drewN _ | exact (HD.out.drewN _).drewN _ | exact ((HD.out.drewN _).drewN _).drewN _, HRL.out, Nat.le_succ _⟩

theorem one_all (K : Bool) (B : Nat) (w : World) (a c m c2 i p q : Nat) (s t : AS) (ps qs : List (Nat × Int × Bool)) (who : Int) (g : Bool) (o0 o1 o2 o3 o4 : Int) (h : Duo B w a c s ps m c2 t qs) (hi : ps[i]? = some (p, who, g)) (hj : qs[i]? = some (q, who, g)) (hR : Rel K s t) (hl : t.log.length ≤ 1000) :
    Calls Try.prog 30 #[.pointer (some ⟨a, 0, none⟩), .pointer (some ⟨p, 0, none⟩), .pointer (some ⟨m, 0, none⟩), .pointer (some ⟨q, 0, none⟩), .agg #[.int .i64 o0, .int .i64 o1, .int .i64 o2, .int .u64 o3, .int .u64 o4]] w (OnePost K B w a c i p q who ps m c2 t qs) := by
  by_cases h1 : o1 < 1 ∨ 9 < o1
  · exact oneN K B w a c m c2 i p q s t ps qs who g o0 o1 o2 o3 o4 h1 h hi hj hR hl
  · have : o1 = 1 ∨ o1 = 2 ∨ o1 = 3 ∨ o1 = 4 ∨ o1 = 5 ∨ o1 = 6 ∨ o1 = 7 ∨ o1 = 8 ∨ o1 = 9 := by omega
    rcases this with rfl | rfl | rfl | rfl | rfl | rfl | rfl | rfl | rfl
    · exact one1 K B w a c m c2 i p q s t ps qs who g o0 o2 o3 o4 h hi hj hR hl
    · exact one2 K B w a c m c2 i p q s t ps qs who g o0 o2 o3 o4 h hi hj hR hl
    · exact one3 K B w a c m c2 i p q s t ps qs who g o0 o2 o3 o4 h hi hj hR hl
    · exact one4 K B w a c m c2 i p q s t ps qs who g o0 o2 o3 o4 h hi hj hR hl
    · exact one5 K B w a c m c2 i p q s t ps qs who g o0 o2 o3 o4 h hi hj hR hl
    · exact one6 K B w a c m c2 i p q s t ps qs who g o0 o2 o3 o4 h hi hj hR hl
    · exact one7 K B w a c m c2 i p q s t ps qs who g o0 o2 o3 o4 h hi hj hR hl
    · exact one8 K B w a c m c2 i p q s t ps qs who g o0 o2 o3 o4 h hi hj hR hl
    · exact one9 K B w a c m c2 i p q s t ps qs who g o0 o2 o3 o4 h hi hj hR hl

end Go.Proofs.Ytneppenmhbjfkaa.Ar

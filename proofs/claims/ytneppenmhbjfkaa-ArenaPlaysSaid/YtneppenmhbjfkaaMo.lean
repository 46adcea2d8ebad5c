/- The chapter's arena and port in memory; what Do does. -/
import Derived.Test.YtneppenmhbjfkaaSys
import Derived.Test.YtneppenmhbjfkaaRg
import Derived.Deep.Cut
namespace Go.Proofs.Ytneppenmhbjfkaa.Ar
open Go Go.RowKit Go.Proofs.Ytneppenmhbjfkaa.Hp
set_option linter.unusedVariables false
set_option linter.unusedSimpArgs false

/-- The chapter's arena: its block, its cells' block, its log (how many accesses there were: the log's length). -/
structure IsM (B : Nat) (w : World) (m c : Nat) (lv : Value) (s : AS) : Prop where
  blk : w.heap[m]? = some (.cells #[.slice (some ⟨c, 0, none⟩) s.cells.length s.cells.length, lv, .int .i64 s.faults] 56 (0, 0))
  cel : w.heap[c]? = some (.cells (s.cells.map (Value.int .u64)).toArray 23 (0, 0))
  log : w.ownsRow B 76 7 lv s.log.length (s.log.flatMap Acc.cells)
  small : s.cells.length ≤ 4096
  keep : s.keep = true
def IsQ (w : World) (q : Nat) (who : Int) (grant : Bool) : Prop := w.heap[q]? = some (.cells #[.int .i64 who, .bool grant] 62 (0, 0))

theorem IsM.mc {B : Nat} {w : World} {m c : Nat} {lv : Value} {s : AS} (h : IsM B w m c lv s) : m ≠ c := blk_ne h.blk h.cel (by decide)
theorem IsM.mq {B : Nat} {w : World} {m c q : Nat} {lv : Value} {s : AS} {who : Int} {g : Bool} (h : IsM B w m c lv s) (hq : IsQ w q who g) : m ≠ q := blk_ne h.blk hq (by decide)
theorem IsM.cq {B : Nat} {w : World} {m c q : Nat} {lv : Value} {s : AS} {who : Int} {g : Bool} (h : IsM B w m c lv s) (hq : IsQ w q who g) : c ≠ q := blk_ne h.cel hq (by decide)
theorem IsM.lm {B : Nat} {w : World} {m c : Nat} {lv : Value} {s : AS} (h : IsM B w m c lv s) : lv.ownBlock ≠ some m := own_ne h.log h.blk (by decide)
theorem IsM.lc {B : Nat} {w : World} {m c : Nat} {lv : Value} {s : AS} (h : IsM B w m c lv s) : lv.ownBlock ≠ some c := own_ne h.log h.cel (by decide)
theorem IsM.lq {B : Nat} {w : World} {m c q : Nat} {lv : Value} {s : AS} {who : Int} {g : Bool} (h : IsM B w m c lv s) (hq : IsQ w q who g) : lv.ownBlock ≠ some q := own_ne h.log hq (by decide)
theorem IsM.fr {S : Nat → Prop} {B : Nat} {w w' : World} {m c : Nat} {lv : Value} {s : AS} (h : IsM B w m c lv s) (hf : Fr S w w') (ha : ¬ S m) (hc : ¬ S c) (hl : ∀ k, lv.ownBlock = some k → ¬ S k) : IsM B w' m c lv s :=
  ⟨hf.blk h.blk ha, hf.blk h.cel hc, own_fr h.log hf hl, h.small, h.keep⟩
theorem IsQ.fr {S : Nat → Prop} {w w' : World} {q : Nat} {who : Int} {g : Bool} (h : IsQ w q who g) (hf : Fr S w w') (hq : ¬ S q) : IsQ w' q who g := hf.blk h hq

/-- The world behind a call of Do. -/
def PostM (B : Nat) (w w' : World) (m c q : Nat) (who : Int) (lv : Value) (s' : AS) : Prop :=
  ∃ lv', IsM B w' m c lv' s' ∧ IsQ w' q who false ∧ Fr (fun k => k = m ∨ k = q ∨ k = c ∨ lv.ownBlock = some k) w w' ∧ (lv'.ownBlock = lv.ownBlock ∨ ∀ k, lv'.ownBlock = some k → w.heap.size ≤ k)

set_option maxHeartbeats 2000000 in
theorem left_call (kind seen want put : Int) (h1 : 1 ≤ kind) (h2 : kind ≤ 6) (w : World) : Calls Try.prog 42 #[.int .i64 kind, .int .u64 seen, .int .u64 want, .int .u64 put] w fun e w' => e = .returned (.tuple #[.int .u64 (leftOf kind seen want put), .bool true]) ∧ w' = w := by
  have : kind = 1 ∨ kind = 2 ∨ kind = 3 ∨ kind = 4 ∨ kind = 5 ∨ kind = 6 := by omega
  clear h1 h2
  rcases this with rfl | rfl | rfl | rfl | rfl | rfl
  · show Calls _ _ _ _ fun e w' => e = .returned (.tuple #[.int .u64 seen, .bool true]) ∧ w' = w
    go_enter Try.func42, Try.ntmps42
    go_wp2
    go_ret2
    exact ⟨rfl, rfl⟩
  · show Calls _ _ _ _ fun e w' => e = .returned (.tuple #[.int .u64 put, .bool true]) ∧ w' = w
    go_enter Try.func42, Try.ntmps42
    go_wp2
    go_ret2
    exact ⟨rfl, rfl⟩
  · show Calls _ _ _ _ fun e w' => e = .returned (.tuple #[.int .u64 put, .bool true]) ∧ w' = w
    go_enter Try.func42, Try.ntmps42
    go_wp2
    go_ret2
    exact ⟨rfl, rfl⟩
  · show Calls _ _ _ _ fun e w' => e = .returned (.tuple #[.int .u64 (if seen = want then put else seen), .bool true]) ∧ w' = w
    by_cases hc : seen = want
    · rw [if_pos hc]
      have q : (seen == want) = true := by simpa using hc
      clear hc
      go_enter Try.func42, Try.ntmps42
      go_wp2
      go_ret2
      exact ⟨rfl, rfl⟩
    · rw [if_neg hc]
      have q : (seen == want) = false := by simpa using hc
      clear hc
      go_enter Try.func42, Try.ntmps42
      go_wp2
      go_ret2
      exact ⟨rfl, rfl⟩
  · show Calls _ _ _ _ fun e w' => e = .returned (.tuple #[.int .u64 (bits BinOp.or IntKind.u64 seen put), .bool true]) ∧ w' = w
    go_enter Try.func42, Try.ntmps42
    go_wp2
    go_ret2
    exact ⟨rfl, rfl⟩
  · show Calls _ _ _ _ fun e w' => e = .returned (.tuple #[.int .u64 (bits BinOp.and IntKind.u64 seen put), .bool true]) ∧ w' = w
    go_enter Try.func42, Try.ntmps42
    go_wp2
    go_ret2
    exact ⟨rfl, rfl⟩

set_option maxHeartbeats 8000000 in
theorem do_no (B : Nat) (w : World) (m c q : Nat) (lv : Value) (s : AS) (who kind at_ want put : Int) (g : Bool) (h : IsM B w m c lv s) (hq : IsQ w q who g) (hg : ¬ (g = true ∧ s.has at_ = true)) :
    Calls Try.prog 43 #[.pointer (some ⟨m, 0, none⟩), .pointer (some ⟨q, 0, none⟩), .int .i64 kind, .int .i64 at_, .int .u64 want, .int .u64 put] w fun e w' => e = .returned (.int .u64 0) ∧ PostM B w w' m c q who lv s.fault := by
  have n1 := h.mc
  have n2 := h.mq hq
  have n3 := h.cq hq
  have HE : PostM B w ((w.setCell ⟨q, 1, none⟩ (.bool false)).setCell ⟨m, 2, none⟩ (.int .i64 (wrap64 (s.faults + 1)))) m c q who lv s.fault := by
    refine ⟨lv, ⟨?_, blk_far (blk_far h.cel _ n3 _) _ (Ne.symm n1) _, own_far (own_far h.log _ _ (h.lq hq)) _ _ h.lm, h.small, h.keep⟩, ?_, ((Fr.refl _ w).setCell _ _ (.inl (.inr (.inl rfl)))).setCell _ _ (.inl (.inl rfl)), .inl rfl⟩
    · have := blk_set (blk_far h.blk ⟨q, 1, none⟩ n2 (.bool false)) 2 (.int .i64 (wrap64 (s.faults + 1)))
      simpa [AS.fault] using this
    · have := blk_far (blk_set hq 1 (.bool false)) ⟨m, 2, none⟩ (Ne.symm n2) (.int .i64 (wrap64 (s.faults + 1)))
      simpa [IsQ] using this
  have HE2 : PostM B w ((w.setCell ⟨q, 1, none⟩ (.bool false)).setCell ⟨m, 2, none⟩ (.int .i64 (wrap64 (s.faults + 1)))).drew m c q who lv s.fault := by
    obtain ⟨lv', a1, a2, a3, a4⟩ := HE
    exact ⟨lv', a1.fr ((Fr.refl (fun _ => False) _).drew) id id (fun _ _ => id), a2.fr ((Fr.refl (fun _ => False) _).drew) id, a3.drew, a4⟩
  have hm := h.small
  obtain ⟨c0, f0⟩ := blk_cell h.blk 0 (v := .slice (some ⟨c, 0, none⟩) s.cells.length s.cells.length) rfl
  obtain ⟨c2, f2⟩ := blk_cell h.blk 2 (v := .int .i64 s.faults) rfl
  obtain ⟨q1, g1⟩ := blk_cell hq 1 (v := .bool g) rfl
  clear h hq
  cases g with
  | false =>
    clear hg
    go_enter Try.func43, Try.ntmps43
    go_wp2
    go_ret
    first | exact ⟨rfl, HE⟩ | exact ⟨rfl, HE2⟩
  | true =>
    have hh : s.has at_ = false := by
      cases hh : s.has at_ with
      | false => rfl
      | true => exact absurd ⟨rfl, hh⟩ hg
    unfold AS.has at hh
    have hh2 := of_decide_eq_false hh
    clear hg hh
    by_cases h0 : 0 ≤ at_
    · have h1 : ¬ at_ < (s.cells.length : Int) := fun z => hh2 ⟨h0, z⟩
      replace h0 := decide_eq_true h0
      replace h1 := decide_eq_false h1
      clear hh2
      go_enter Try.func43, Try.ntmps43
      go_wp2
      go_ret
      first | exact ⟨rfl, HE⟩ | exact ⟨rfl, HE2⟩
    · replace h0 := decide_eq_false h0
      clear hh2
      go_enter Try.func43, Try.ntmps43
      go_wp2
      go_ret
      first | exact ⟨rfl, HE⟩ | exact ⟨rfl, HE2⟩

set_option maxHeartbeats 8000000 in
theorem do_yes (B : Nat) (w : World) (m c q : Nat) (lv : Value) (s : AS) (who kind at_ want put seen left : Int) (h : IsM B w m c lv s) (hq : IsQ w q who true) (hB : B ≤ w.heap.size) (hlen : s.log.length ≤ 1000000) (hat : 0 ≤ at_) (hat2 : at_ < s.cells.length)
    (hseen : s.cells.getD at_.toNat 0 = seen) (hleft : left = leftOf kind seen want put) (hk1 : 1 ≤ kind) (hk2 : kind ≤ 6) :
    Calls Try.prog 43 #[.pointer (some ⟨m, 0, none⟩), .pointer (some ⟨q, 0, none⟩), .int .i64 kind, .int .i64 at_, .int .u64 want, .int .u64 put] w fun e w' => e = .returned (.int .u64 seen) ∧ PostM B w w' m c q who lv (s.done ⟨who, kind, at_, want, put, seen, left⟩) := by
  have n1 := h.mc
  have n2 := h.mq hq
  have n3 := h.cq hq
  have hs := h.small
  have hkeep := h.keep
  have hlm := h.lm
  have hlc := h.lc
  have hlq := h.lq hq
  have HLF := Lib.hid (left_call kind seen want put hk1 hk2)
  rw [← hleft] at HLF
  have hc2 : (s.cells.map (Value.int .u64)).toArray[at_.toNat]? = some (.int .u64 seen) := by
    have : at_.toNat < s.cells.length := by omega
    rw [← hseen]
    simp [List.getD, this]
  have HC2 := Lib.hid hc2
  have hat' := hat
  have hat2' := hat2
  obtain ⟨c0, f0⟩ := blk_cell h.blk 0 (v := .slice (some ⟨c, 0, none⟩) s.cells.length s.cells.length) rfl
  obtain ⟨c1, f1⟩ := blk_cell h.blk 1 (v := lv) rfl
  obtain ⟨q0, g0⟩ := blk_cell hq 0 (v := .int .i64 who) rfl
  obtain ⟨q1, g1⟩ := blk_cell hq 1 (v := .bool true) rfl
  obtain ⟨d0, e0⟩ := blk_cell h.cel at_.toNat (v := .int .u64 seen) hc2
  -- the world behind both stores
  have mA : ((w.setCell ⟨q, 1, none⟩ (.bool false)).setCell ⟨c, at_.toNat, none⟩ (.int .u64 left)).heap[m]? = some (.cells #[.slice (some ⟨c, 0, none⟩) s.cells.length s.cells.length, lv, .int .i64 s.faults] 56 (0, 0)) := blk_far (blk_far h.blk ⟨q, 1, none⟩ n2 _) _ n1 _
  have mC : ((w.setCell ⟨q, 1, none⟩ (.bool false)).setCell ⟨c, at_.toNat, none⟩ (.int .u64 left)).heap[c]? = some (.cells ((s.cells.set at_.toNat left).map (Value.int .u64)).toArray 23 (0, 0)) := by
    have := blk_set (blk_far h.cel ⟨q, 1, none⟩ n3 (.bool false)) at_.toNat (.int .u64 left)
    rw [this]
    simp [List.map_set]
  have mQ : IsQ ((w.setCell ⟨q, 1, none⟩ (.bool false)).setCell ⟨c, at_.toNat, none⟩ (.int .u64 left)) q who false := by
    have := blk_far (blk_set hq 1 (.bool false)) ⟨c, at_.toNat, none⟩ (Ne.symm n3) (.int .u64 left)
    simpa [IsQ] using this
  have mL : ((w.setCell ⟨q, 1, none⟩ (.bool false)).setCell ⟨c, at_.toNat, none⟩ (.int .u64 left)).ownsRow B 76 7 lv s.log.length (s.log.flatMap Acc.cells) := own_far (own_far h.log _ _ hlq) _ _ hlc
  have mF : Fr (fun k => k = m ∨ k = q ∨ k = c) w ((w.setCell ⟨q, 1, none⟩ (.bool false)).setCell ⟨c, at_.toNat, none⟩ (.int .u64 left)) := ((Fr.refl _ w).setCell _ _ (.inl (.inr (.inl rfl)))).setCell _ _ (.inl (.inr (.inr rfl)))
  have HMA := Lib.hid mA
  have HMC := Lib.hid mC
  have HMQ := Lib.hid mQ
  have HML := Lib.hid mL
  have HMF := Lib.hid mF
  replace hat : decide (0 ≤ at_) = true := decide_eq_true hat
  replace hat2 : decide (at_ < (s.cells.length : Int)) = true := decide_eq_true hat2
  obtain ⟨i0, hi0, hz0, hz1, hz2⟩ := info_parts infoAcc
  clear h hq mA mC mQ mL mF hc2 hleft hseen
  go_enter Try.func43, Try.ntmps43
  go_upto_region 9 with (first | (go_at_call 42; go_loud (with_reducible refine (HLF.out _).mono ?_; rintro e w2 ⟨rfl, rfl⟩)))
  clear c0 f0 c1 f1 q0 g0 q1 g1 d0 e0 HLF
  obtain ⟨wr, hwr⟩ : ∃ wr, wr = (w.setCell ⟨q, 1, none⟩ (.bool false)).setCell ⟨c, at_.toNat, none⟩ (.int .u64 left) := ⟨_, rfl⟩
  rw [← hwr] at HMA HMC HMQ HML HMF ⊢
  clear hwr
  have mA := HMA.out
  have mC := HMC.out
  have mQ := HMQ.out
  have mL := HML.out
  have mF := HMF.out
  clear HMA HMC HMQ HML HMF
  obtain ⟨b1, v1⟩ := blk_cell mA 1 (v := lv) rfl
  obtain ⟨b5, v5⟩ := blk_cell mQ 0 (v := .int .i64 who) rfl
  have hBr : B ≤ wr.heap.size := Nat.le_trans hB mF.size
  have lA := blk_lt mA
  have lC := blk_lt mC
  have lQ := blk_lt mQ
  refine Rg.Upto.start (fun w' => w'.cell? ⟨q, 0, none⟩ = some (.int .i64 who) ∧ w'.cell? ⟨m, 1, none⟩ = some lv) 20 (by kernel_rfl) ⟨b5, b1⟩ (fun HS => ?_)
  refine Rg.Upto.take (i := 0) (v := ?_) rfl (by kernel_rfl) (by kernel_rfl) (by kernel_rfl) (by kernel_rfl) (fun _ _ _ h => h) (by rfl) (fun w5 hS5 => ?_) HS ?_
  rotate_left
  · obtain ⟨s1, s2⟩ := hS5
    go_simp
    try rfl
  try simp only [Act.put, List.setIfInBounds_toArray, List.set_cons_zero, List.set_cons_succ]
  refine Rg.Upto.take (i := 1) (v := ?_) rfl (by kernel_rfl) (by kernel_rfl) (by kernel_rfl) (by kernel_rfl) (fun _ _ _ h => h) (by rfl) (fun w5 hS5 => ?_) HS ?_
  rotate_left
  · obtain ⟨s1, s2⟩ := hS5
    go_simp
    try rfl
  try simp only [Act.put, List.setIfInBounds_toArray, List.set_cons_zero, List.set_cons_succ]
  refine Rg.Upto.take (i := 2) (v := ?_) rfl (by kernel_rfl) (by kernel_rfl) (by kernel_rfl) (by kernel_rfl) (fun _ _ _ h => h) (by rfl) (fun w5 hS5 => ?_) HS ?_
  rotate_left
  · obtain ⟨s1, s2⟩ := hS5
    go_simp
    try rfl
  try simp only [Act.put, List.setIfInBounds_toArray, List.set_cons_zero, List.set_cons_succ]
  refine Rg.Upto.take (i := 3) (v := ?_) rfl (by kernel_rfl) (by kernel_rfl) (by kernel_rfl) (by kernel_rfl) (fun _ _ _ h => h) (by rfl) (fun w5 hS5 => ?_) HS ?_
  rotate_left
  · obtain ⟨s1, s2⟩ := hS5
    go_simp
    try rfl
  try simp only [Act.put, List.setIfInBounds_toArray, List.set_cons_zero, List.set_cons_succ]
  refine Rg.Upto.take (i := 4) (v := ?_) rfl (by kernel_rfl) (by kernel_rfl) (by kernel_rfl) (by kernel_rfl) (fun _ _ _ h => h) (by rfl) (fun w5 hS5 => ?_) HS ?_
  rotate_left
  · obtain ⟨s1, s2⟩ := hS5
    go_simp
    try rfl
  try simp only [Act.put, List.setIfInBounds_toArray, List.set_cons_zero, List.set_cons_succ]
  refine Rg.Upto.take (i := 5) (v := ?_) rfl (by kernel_rfl) (by kernel_rfl) (by kernel_rfl) (by kernel_rfl) (fun _ _ _ h => h) (by rfl) (fun w5 hS5 => ?_) HS ?_
  rotate_left
  · obtain ⟨s1, s2⟩ := hS5
    go_simp
    try rfl
  try simp only [Act.put, List.setIfInBounds_toArray, List.set_cons_zero, List.set_cons_succ]
  refine Rg.Upto.take (i := 6) (v := ?_) rfl (by kernel_rfl) (by kernel_rfl) (by kernel_rfl) (by kernel_rfl) (fun _ _ _ h => h) (by rfl) (fun w5 hS5 => ?_) HS ?_
  rotate_left
  · obtain ⟨s1, s2⟩ := hS5
    go_simp
    try rfl
  try simp only [Act.put, List.setIfInBounds_toArray, List.set_cons_zero, List.set_cons_succ]
  refine Rg.Upto.take (i := 7) (v := ?_) rfl (by kernel_rfl) (by kernel_rfl) (by kernel_rfl) (by kernel_rfl) (fun _ _ _ h => h) (by rfl) (fun w5 hS5 => ?_) HS ?_
  rotate_left
  · obtain ⟨s1, s2⟩ := hS5
    go_simp
    try rfl
  try simp only [Act.put, List.setIfInBounds_toArray, List.set_cons_zero, List.set_cons_succ]
  refine Rg.Upto.take (i := 8) (v := ?_) rfl (by kernel_rfl) (by kernel_rfl) (by kernel_rfl) (by kernel_rfl) (fun _ _ _ h => h) (by rfl) (fun w5 hS5 => ?_) HS ?_
  rotate_left
  · obtain ⟨s1, s2⟩ := hS5
    go_simp
    try rfl
  try simp only [Act.put, List.setIfInBounds_toArray, List.set_cons_zero, List.set_cons_succ]
  refine Rg.Upto.take (i := 9) (v := ?_) rfl (by kernel_rfl) (by kernel_rfl) (by kernel_rfl) (by kernel_rfl) (fun _ _ _ h => h) (by rfl) (fun w5 hS5 => ?_) HS ?_
  rotate_left
  · obtain ⟨s1, s2⟩ := hS5
    go_simp
    try rfl
  try simp only [Act.put, List.setIfInBounds_toArray, List.set_cons_zero, List.set_cons_succ]
  refine Rg.Upto.take (i := 10) (v := ?_) rfl (by kernel_rfl) (by kernel_rfl) (by kernel_rfl) (by kernel_rfl) (fun _ _ _ h => h) (by rfl) (fun w5 hS5 => ?_) HS ?_
  rotate_left
  · obtain ⟨s1, s2⟩ := hS5
    go_simp
    try rfl
  try simp only [Act.put, List.setIfInBounds_toArray, List.set_cons_zero, List.set_cons_succ]
  refine Rg.Upto.take (i := 11) (v := ?_) rfl (by kernel_rfl) (by kernel_rfl) (by kernel_rfl) (by kernel_rfl) (fun _ _ _ h => h) (by rfl) (fun w5 hS5 => ?_) HS ?_
  rotate_left
  · obtain ⟨s1, s2⟩ := hS5
    go_simp
    try rfl
  try simp only [Act.put, List.setIfInBounds_toArray, List.set_cons_zero, List.set_cons_succ]
  refine Rg.Upto.take (i := 12) (v := ?_) rfl (by kernel_rfl) (by kernel_rfl) (by kernel_rfl) (by kernel_rfl) (fun _ _ _ h => h) (by rfl) (fun w5 hS5 => ?_) HS ?_
  rotate_left
  · obtain ⟨s1, s2⟩ := hS5
    go_simp
    try rfl
  try simp only [Act.put, List.setIfInBounds_toArray, List.set_cons_zero, List.set_cons_succ]
  refine Rg.Upto.take (i := 13) (v := ?_) rfl (by kernel_rfl) (by kernel_rfl) (by kernel_rfl) (by kernel_rfl) (fun _ _ _ h => h) (by rfl) (fun w5 hS5 => ?_) HS ?_
  rotate_left
  · obtain ⟨s1, s2⟩ := hS5
    go_simp
    try rfl
  try simp only [Act.put, List.setIfInBounds_toArray, List.set_cons_zero, List.set_cons_succ]
  refine Rg.Upto.take (i := 14) (v := ?_) rfl (by kernel_rfl) (by kernel_rfl) (by kernel_rfl) (by kernel_rfl) (fun _ _ _ h => h) (by rfl) (fun w5 hS5 => ?_) HS ?_
  rotate_left
  · obtain ⟨s1, s2⟩ := hS5
    go_simp
    try rfl
  try simp only [Act.put, List.setIfInBounds_toArray, List.set_cons_zero, List.set_cons_succ]
  refine Rg.Upto.take (i := 15) (v := ?_) rfl (by kernel_rfl) (by kernel_rfl) (by kernel_rfl) (by kernel_rfl) (fun _ _ _ h => h) (by rfl) (fun w5 hS5 => ?_) HS ?_
  rotate_left
  · obtain ⟨s1, s2⟩ := hS5
    go_simp
    try rfl
  try simp only [Act.put, List.setIfInBounds_toArray, List.set_cons_zero, List.set_cons_succ]
  refine Rg.Upto.one (i := 16) rfl (by kernel_rfl) (by rfl) (fun K hK => ?_)
  go_simp
  refine hK.out _ _ ⟨(World.cell?_alloc_lt wr _ _ lQ).trans b5, (World.cell?_alloc_lt wr _ _ lA).trans b1⟩ ?_
  clear hK K
  try simp only [Act.put, List.setIfInBounds_toArray, List.set_cons_zero, List.set_cons_succ]
  refine Rg.Upto.one (i := 17) rfl (by kernel_rfl) (by rfl) (fun K hK => ?_)
  refine wp_append_lies _ (.tmp 72) (.tmp 84) 45 rfl B 76 i0 _ 7 56 Try.underlying45 hi0 hz0 hz1 hz2 rfl (by omega) lv s.log.length (s.log.flatMap Acc.cells) rfl ((mL.alloc _).drew) ⟨wr.heap.size, 0, none⟩ 1 1 (Acc.cells ⟨who, kind, at_, want, put, seen, left⟩) rfl rfl
    (World.news_of_block (cs := #[.int .i64 who, .int .i64 kind, .int .i64 at_, .int .u64 want, .int .u64 put, .int .u64 seen, .int .u64 left]) (t := 76) (fr := (0, 0)) (blk_new wr _)) (by simp [Value.oneCell', Acc.cells]) (by omega) (by unfold maxLen; omega) (by omega) (by show B ≤ (wr.alloc _).heap.size; simp; omega) (wr.heap.size + 1) (by show (wr.alloc _).heap.size = _; simp) ?_
  intro gg cap w4 own4 grow4 at4 lt4
  have e0 : Fr (fun k => lv.ownBlock = some k) wr w4 := ((Fr.refl _ wr).alloc _).drew.grown grow4 (fun k hk => .inl hk)
  have fA := e0.blk mA hlm
  have fC := e0.blk mC (fun z => hlc z)
  have fQ := e0.blk mQ hlq
  obtain ⟨x1, y1⟩ := blk_cell fA 1 (v := lv) rfl
  obtain ⟨x5, y5⟩ := blk_cell fQ 0 (v := .int .i64 who) rfl
  refine hK.out _ _ ⟨x5, x1⟩ ?_
  clear hK K
  try simp only [Act.put, List.setIfInBounds_toArray, List.set_cons_zero, List.set_cons_succ]
  refine Rg.Upto.one (i := 18) rfl (by kernel_rfl) (by rfl) (fun K hK => ?_)
  go_simp
  refine hK.out _ _ ⟨x5, x1⟩ ?_
  clear hK K
  try simp only [Act.put, List.setIfInBounds_toArray, List.set_cons_zero, List.set_cons_succ]
  refine Rg.Upto.one (i := 19) rfl (by kernel_rfl) (by rfl) (fun K hK => ?_)
  go_simp
  refine hK.out _ _ ⟨x5, x1⟩ ?_
  clear hK K
  try simp only [Act.put, List.setIfInBounds_toArray, List.set_cons_zero, List.set_cons_succ]
  refine Rg.Upto.last rfl (by kernel_rfl) (by kernel_rfl) (by rfl) (fun K hK => ?_)
  go_simp
  refine hK.out _ _ ?_
  clear hK K
  go_wp2
  go_ret
  refine ⟨rfl, .slice (some ⟨gg, 0, none⟩) (s.log.length + 1) cap, ⟨?_, ?_, ?_, ?_, hkeep⟩, ?_, ?_, ?_⟩
  · have := blk_set fA 1 (.slice (some ⟨gg, 0, none⟩) (s.log.length + 1) cap)
    simpa [AS.done, hkeep] using this
  · have := blk_far fC ⟨m, 1, none⟩ (Ne.symm n1) (.slice (some ⟨gg, 0, none⟩) (s.log.length + 1) cap)
    simpa [AS.done] using this
  · have := own_far own4 ⟨m, 1, none⟩ (.slice (some ⟨gg, 0, none⟩) (s.log.length + 1) cap) (own_ne own4 fA (by decide))
    simpa [AS.done, hkeep] using this
  · simpa [AS.done] using hs
  · exact blk_far fQ ⟨m, 1, none⟩ (Ne.symm n2) _
  · exact ((mF.mono (fun k _ hk => by rcases hk with h | h | h <;> simp [h])).then e0 (fun k _ hk => .inr (.inr (.inr hk)))).setCell _ _ (.inl (.inl rfl))
  · rcases at4 with h | h
    · left; rw [h]; rfl
    · right
      intro k hk
      have e : gg = k := by simpa [Value.ownBlock] using hk
      have := mF.size
      omega

/-- Do: whatever it is asked. -/
theorem mDo (B : Nat) (w : World) (m c q : Nat) (lv : Value) (s : AS) (who kind at_ want put : Int) (g : Bool) (h : IsM B w m c lv s) (hq : IsQ w q who g) (hB : B ≤ w.heap.size) (hlen : s.log.length ≤ 1000000) (hk1 : 1 ≤ kind) (hk2 : kind ≤ 6) :
    Calls Try.prog 43 #[.pointer (some ⟨m, 0, none⟩), .pointer (some ⟨q, 0, none⟩), .int .i64 kind, .int .i64 at_, .int .u64 want, .int .u64 put] w fun e w' => e = .returned (.int .u64 (s.acc g who kind at_ want put).2) ∧ PostM B w w' m c q who lv (s.acc g who kind at_ want put).1 := by
  unfold AS.acc
  by_cases hc : g = true ∧ s.has at_ = true
  · rw [if_pos hc]
    obtain ⟨rfl, hh⟩ := hc
    have hh2 := of_decide_eq_true hh
    exact do_yes B w m c q lv s who kind at_ want put _ _ h hq hB hlen hh2.1 hh2.2 rfl rfl hk1 hk2
  · rw [if_neg hc]
    exact do_no B w m c q lv s who kind at_ want put g h hq hc
end Go.Proofs.Ytneppenmhbjfkaa.Ar

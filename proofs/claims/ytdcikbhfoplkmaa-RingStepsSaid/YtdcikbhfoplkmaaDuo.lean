/- The chapter's arena and port in memory; what Do does. -/
import Derived.Test.YtdcikbhfoplkmaaSys
import Derived.Test.YtdcikbhfoplkmaaRg
import Derived.Deep.Cut
namespace Go.Proofs.Ytdcikbhfoplkmaa.Ar
open Go Go.RowKit Go.Proofs.Ytdcikbhfoplkmaa.Hp
set_option linter.unusedVariables false
set_option linter.unusedSimpArgs false

/-- The chapter's arena: its block, its cells' block, its log (how many accesses there were: the log's length). -/
structure IsM (B : Nat) (w : World) (m c : Nat) (lv : Value) (s : AS) : Prop where
  blk : w.heap[m]? = some (.cells #[.slice (some ⟨c, 0, none⟩) s.cells.length s.cells.length, lv, .int .i64 s.faults] 74 (0, 0))
  cel : w.heap[c]? = some (.cells (s.cells.map (Value.int .u64)).toArray 24 (0, 0))
  log : w.ownsRow B 83 7 lv s.log.length (s.log.flatMap Acc.cells)
  small : s.cells.length ≤ 4096
  keep : s.keep = true
def IsQ (w : World) (q : Nat) (who : Int) (grant : Bool) : Prop := w.heap[q]? = some (.cells #[.int .i64 who, .bool grant] 127 (0, 0))

theorem IsM.mc {B : Nat} {w : World} {m c : Nat} {lv : Value} {s : AS} (h : IsM B w m c lv s) : m ≠ c := blk_ne h.blk h.cel (by decide)
theorem IsM.mq {B : Nat} {w : World} {m c q : Nat} {lv : Value} {s : AS} {who : Int} {g : Bool} (h : IsM B w m c lv s) (hq : IsQ w q who g) : m ≠ q := blk_ne h.blk hq (by decide)
theorem IsM.cq {B : Nat} {w : World} {m c q : Nat} {lv : Value} {s : AS} {who : Int} {g : Bool} (h : IsM B w m c lv s) (hq : IsQ w q who g) : c ≠ q := blk_ne h.cel hq (by decide)
theorem IsM.lm {B : Nat} {w : World} {m c : Nat} {lv : Value} {s : AS} (h : IsM B w m c lv s) : lv.ownBlock ≠ some m := own_ne h.log h.blk (by decide)
theorem IsM.lc {B : Nat} {w : World} {m c : Nat} {lv : Value} {s : AS} (h : IsM B w m c lv s) : lv.ownBlock ≠ some c := own_ne h.log h.cel (by decide)
theorem IsM.lq {B : Nat} {w : World} {m c q : Nat} {lv : Value} {s : AS} {who : Int} {g : Bool} (h : IsM B w m c lv s) (hq : IsQ w q who g) : lv.ownBlock ≠ some q := own_ne h.log hq (by decide)
theorem IsM.fr {S : Nat → Prop} {B : Nat} {w w' : World} {m c : Nat} {lv : Value} {s : AS} (h : IsM B w m c lv s) (hf : Fr S w w') (ha : ¬ S m) (hc : ¬ S c) (hl : ∀ k, lv.ownBlock = some k → ¬ S k) : IsM B w' m c lv s :=
  ⟨hf.blk h.blk ha, hf.blk h.cel hc, own_fr h.log hf hl, h.small, h.keep⟩
theorem IsQ.fr {S : Nat → Prop} {w w' : World} {q : Nat} {who : Int} {g : Bool} (h : IsQ w q who g) (hf : Fr S w w') (hq : ¬ S q) : IsQ w' q who g := hf.blk h hq

/-- The world behind a call of Do. -/
def PostM (B : Nat) (w w' : World) (m c q : Nat) (who : Int) (lv : Value) (s' : AS) : Prop :=
  ∃ lv', IsM B w' m c lv' s' ∧ IsQ w' q who false ∧ Fr (fun k => k = m ∨ k = q ∨ k = c ∨ lv.ownBlock = some k) w w' ∧ (lv'.ownBlock = lv.ownBlock ∨ ∀ k, lv'.ownBlock = some k → w.heap.size ≤ k)

set_option maxHeartbeats 2000000 in
theorem left_call (kind seen want put : Int) (h1 : 1 ≤ kind) (h2 : kind ≤ 6) (w : World) : Calls Try.prog 75 #[.int .i64 kind, .int .u64 seen, .int .u64 want, .int .u64 put] w fun e w' => e = .returned (.tuple #[.int .u64 (leftOf kind seen want put), .bool true]) ∧ w' = w := by
  have : kind = 1 ∨ kind = 2 ∨ kind = 3 ∨ kind = 4 ∨ kind = 5 ∨ kind = 6 := by omega
  clear h1 h2
  rcases this with rfl | rfl | rfl | rfl | rfl | rfl
  · show Calls _ _ _ _ fun e w' => e = .returned (.tuple #[.int .u64 seen, .bool true]) ∧ w' = w
    go_enter Try.func75, Try.ntmps75
    go_wp2
    go_ret2
    exact ⟨rfl, rfl⟩
  · show Calls _ _ _ _ fun e w' => e = .returned (.tuple #[.int .u64 put, .bool true]) ∧ w' = w
    go_enter Try.func75, Try.ntmps75
    go_wp2
    go_ret2
    exact ⟨rfl, rfl⟩
  · show Calls _ _ _ _ fun e w' => e = .returned (.tuple #[.int .u64 put, .bool true]) ∧ w' = w
    go_enter Try.func75, Try.ntmps75
    go_wp2
    go_ret2
    exact ⟨rfl, rfl⟩
  · show Calls _ _ _ _ fun e w' => e = .returned (.tuple #[.int .u64 (if seen = want then put else seen), .bool true]) ∧ w' = w
    by_cases hc : seen = want
    · rw [if_pos hc]
      have q : (seen == want) = true := by simpa using hc
      clear hc
      go_enter Try.func75, Try.ntmps75
      go_wp2
      go_ret2
      exact ⟨rfl, rfl⟩
    · rw [if_neg hc]
      have q : (seen == want) = false := by simpa using hc
      clear hc
      go_enter Try.func75, Try.ntmps75
      go_wp2
      go_ret2
      exact ⟨rfl, rfl⟩
  · show Calls _ _ _ _ fun e w' => e = .returned (.tuple #[.int .u64 (bits BinOp.or IntKind.u64 seen put), .bool true]) ∧ w' = w
    go_enter Try.func75, Try.ntmps75
    go_wp2
    go_ret2
    exact ⟨rfl, rfl⟩
  · show Calls _ _ _ _ fun e w' => e = .returned (.tuple #[.int .u64 (bits BinOp.and IntKind.u64 seen put), .bool true]) ∧ w' = w
    go_enter Try.func75, Try.ntmps75
    go_wp2
    go_ret2
    exact ⟨rfl, rfl⟩

set_option maxHeartbeats 8000000 in
theorem do_no (B : Nat) (w : World) (m c q : Nat) (lv : Value) (s : AS) (who kind at_ want put : Int) (g : Bool) (h : IsM B w m c lv s) (hq : IsQ w q who g) (hg : ¬ (g = true ∧ s.has at_ = true)) :
    Calls Try.prog 71 #[.pointer (some ⟨m, 0, none⟩), .pointer (some ⟨q, 0, none⟩), .int .i64 kind, .int .i64 at_, .int .u64 want, .int .u64 put] w fun e w' => e = .returned (.int .u64 0) ∧ PostM B w w' m c q who lv s.fault := by
  have n1 := h.mc
  have n2 := h.mq hq
  have n3 := h.cq hq
  have HE : PostM B w ((w.setCell ⟨q, 1, none⟩ (.bool false)).setCell ⟨m, 2, none⟩ (.int .i64 (wrap64 (s.faults + 1)))) m c q who lv s.fault := by
    refine ⟨lv, ⟨?_, blk_far (blk_far h.cel _ n3 _) _ (Ne.symm n1) _, own_far (own_far h.log _ _ (h.lq hq)) _ _ h.lm, h.small, h.keep⟩, ?_, ((Fr.refl _ w).setCell _ _ (.inl (.inr (.inl rfl)))).setCell _ _ (.inl (.inl rfl)), .inl rfl⟩
    · have := blk_set (blk_far h.blk ⟨q, 1, none⟩ n2 (.bool false)) 2 (.int .i64 (wrap64 (s.faults + 1)))
      simpa [AS.fault] using this
    · have := blk_far (blk_set hq 1 (.bool false)) ⟨m, 2, none⟩ (Ne.symm n2) (.int .i64 (wrap64 (s.faults + 1)))
      simpa [IsQ] using this
  have HE2 : PostM B w ((w.setCell ⟨q, 1, none⟩ (.bool false)).setCell ⟨m, 2, none⟩ (.int .i64 (wrap64 (s.faults + 1)))).drew m c q who lv s.fault := by
    obtain ⟨lv', a1, a2, a3, a4⟩ := HE
    exact ⟨lv', a1.fr ((Fr.refl (fun _ => False) _).drew) id id (fun _ _ => id), a2.fr ((Fr.refl (fun _ => False) _).drew) id, a3.drew, a4⟩
  have hm := h.small
  obtain ⟨c0, f0⟩ := blk_cell h.blk 0 (v := .slice (some ⟨c, 0, none⟩) s.cells.length s.cells.length) rfl
  obtain ⟨c2, f2⟩ := blk_cell h.blk 2 (v := .int .i64 s.faults) rfl
  obtain ⟨q1, g1⟩ := blk_cell hq 1 (v := .bool g) rfl
  clear h hq
  cases g with
  | false =>
    clear hg
    go_enter Try.func71, Try.ntmps71
    go_wp2
    go_ret
    first | exact ⟨rfl, HE⟩ | exact ⟨rfl, HE2⟩
  | true =>
    have hh : s.has at_ = false := by
      cases hh : s.has at_ with
      | false => rfl
      | true => exact absurd ⟨rfl, hh⟩ hg
    unfold AS.has at hh
    have hh2 := of_decide_eq_false hh
    clear hg hh
    by_cases h0 : 0 ≤ at_
    · have h1 : ¬ at_ < (s.cells.length : Int) := fun z => hh2 ⟨h0, z⟩
      replace h0 := decide_eq_true h0
      replace h1 := decide_eq_false h1
      clear hh2
      go_enter Try.func71, Try.ntmps71
      go_wp2
      go_ret
      first | exact ⟨rfl, HE⟩ | exact ⟨rfl, HE2⟩
    · replace h0 := decide_eq_false h0
      clear hh2
      go_enter Try.func71, Try.ntmps71
      go_wp2
      go_ret
      first | exact ⟨rfl, HE⟩ | exact ⟨rfl, HE2⟩

set_option maxHeartbeats 8000000 in
theorem do_yes (B : Nat) (w : World) (m c q : Nat) (lv : Value) (s : AS) (who kind at_ want put seen left : Int) (h : IsM B w m c lv s) (hq : IsQ w q who true) (hB : B ≤ w.heap.size) (hlen : s.log.length ≤ 1000000) (hat : 0 ≤ at_) (hat2 : at_ < s.cells.length)
    (hseen : s.cells.getD at_.toNat 0 = seen) (hleft : left = leftOf kind seen want put) (hk1 : 1 ≤ kind) (hk2 : kind ≤ 6) :
    Calls Try.prog 71 #[.pointer (some ⟨m, 0, none⟩), .pointer (some ⟨q, 0, none⟩), .int .i64 kind, .int .i64 at_, .int .u64 want, .int .u64 put] w fun e w' => e = .returned (.int .u64 seen) ∧ PostM B w w' m c q who lv (s.done ⟨who, kind, at_, want, put, seen, left⟩) := by
  have n1 := h.mc
  have n2 := h.mq hq
  have n3 := h.cq hq
  have hs := h.small
  have hkeep := h.keep
  have hlm := h.lm
  have hlc := h.lc
  have hlq := h.lq hq
  have HLF := Lib.hid (left_call kind seen want put hk1 hk2)
  rw [← hleft] at HLF
  have hc2 : (s.cells.map (Value.int .u64)).toArray[at_.toNat]? = some (.int .u64 seen) := by
    have : at_.toNat < s.cells.length := by omega
    rw [← hseen]
    simp [List.getD, this]
  have HC2 := Lib.hid hc2
  have hat' := hat
  have hat2' := hat2
  obtain ⟨c0, f0⟩ := blk_cell h.blk 0 (v := .slice (some ⟨c, 0, none⟩) s.cells.length s.cells.length) rfl
  obtain ⟨c1, f1⟩ := blk_cell h.blk 1 (v := lv) rfl
  obtain ⟨q0, g0⟩ := blk_cell hq 0 (v := .int .i64 who) rfl
  obtain ⟨q1, g1⟩ := blk_cell hq 1 (v := .bool true) rfl
  obtain ⟨d0, e0⟩ := blk_cell h.cel at_.toNat (v := .int .u64 seen) hc2
  -- the world behind both stores
  have mA : ((w.setCell ⟨q, 1, none⟩ (.bool false)).setCell ⟨c, at_.toNat, none⟩ (.int .u64 left)).heap[m]? = some (.cells #[.slice (some ⟨c, 0, none⟩) s.cells.length s.cells.length, lv, .int .i64 s.faults] 74 (0, 0)) := blk_far (blk_far h.blk ⟨q, 1, none⟩ n2 _) _ n1 _
  have mC : ((w.setCell ⟨q, 1, none⟩ (.bool false)).setCell ⟨c, at_.toNat, none⟩ (.int .u64 left)).heap[c]? = some (.cells ((s.cells.set at_.toNat left).map (Value.int .u64)).toArray 24 (0, 0)) := by
    have := blk_set (blk_far h.cel ⟨q, 1, none⟩ n3 (.bool false)) at_.toNat (.int .u64 left)
    rw [this]
    simp [List.map_set]
  have mQ : IsQ ((w.setCell ⟨q, 1, none⟩ (.bool false)).setCell ⟨c, at_.toNat, none⟩ (.int .u64 left)) q who false := by
    have := blk_far (blk_set hq 1 (.bool false)) ⟨c, at_.toNat, none⟩ (Ne.symm n3) (.int .u64 left)
    simpa [IsQ] using this
  have mL : ((w.setCell ⟨q, 1, none⟩ (.bool false)).setCell ⟨c, at_.toNat, none⟩ (.int .u64 left)).ownsRow B 83 7 lv s.log.length (s.log.flatMap Acc.cells) := own_far (own_far h.log _ _ hlq) _ _ hlc
  have mF : Fr (fun k => k = m ∨ k = q ∨ k = c) w ((w.setCell ⟨q, 1, none⟩ (.bool false)).setCell ⟨c, at_.toNat, none⟩ (.int .u64 left)) := ((Fr.refl _ w).setCell _ _ (.inl (.inr (.inl rfl)))).setCell _ _ (.inl (.inr (.inr rfl)))
  have HMA := Lib.hid mA
  have HMC := Lib.hid mC
  have HMQ := Lib.hid mQ
  have HML := Lib.hid mL
  have HMF := Lib.hid mF
  replace hat : decide (0 ≤ at_) = true := decide_eq_true hat
  replace hat2 : decide (at_ < (s.cells.length : Int)) = true := decide_eq_true hat2
  obtain ⟨i0, hi0, hz0, hz1, hz2⟩ := info_parts infoAcc
  clear h hq mA mC mQ mL mF hc2 hleft hseen
  go_enter Try.func71, Try.ntmps71
  go_upto_region 9 with (first | (go_at_call 75; (with_reducible refine (HLF.out _).mono ?_; rintro e w2 ⟨rfl, rfl⟩)))
  clear c0 f0 c1 f1 q0 g0 q1 g1 d0 e0 HLF
  obtain ⟨wr, hwr⟩ : ∃ wr, wr = (w.setCell ⟨q, 1, none⟩ (.bool false)).setCell ⟨c, at_.toNat, none⟩ (.int .u64 left) := ⟨_, rfl⟩
  rw [← hwr] at HMA HMC HMQ HML HMF ⊢
  clear hwr
  have mA := HMA.out
  have mC := HMC.out
  have mQ := HMQ.out
  have mL := HML.out
  have mF := HMF.out
  clear HMA HMC HMQ HML HMF
  obtain ⟨b1, v1⟩ := blk_cell mA 1 (v := lv) rfl
  obtain ⟨b5, v5⟩ := blk_cell mQ 0 (v := .int .i64 who) rfl
  have hBr : B ≤ wr.heap.size := Nat.le_trans hB mF.size
  have lA := blk_lt mA
  have lC := blk_lt mC
  have lQ := blk_lt mQ
  refine Rg.Upto.start (fun w' => w'.cell? ⟨q, 0, none⟩ = some (.int .i64 who) ∧ w'.cell? ⟨m, 1, none⟩ = some lv) 20 (by kernel_rfl) ⟨b5, b1⟩ (fun HS => ?_)
  refine Rg.Upto.take (i := 0) (v := ?_) rfl (by kernel_rfl) (by kernel_rfl) (by kernel_rfl) (by kernel_rfl) (fun _ _ _ h => h) (by rfl) (fun w5 hS5 => ?_) HS ?_
  rotate_left
  · obtain ⟨s1, s2⟩ := hS5
    go_simp
    try rfl
  try simp only [Act.put, List.setIfInBounds_toArray, List.set_cons_zero, List.set_cons_succ]
  refine Rg.Upto.take (i := 1) (v := ?_) rfl (by kernel_rfl) (by kernel_rfl) (by kernel_rfl) (by kernel_rfl) (fun _ _ _ h => h) (by rfl) (fun w5 hS5 => ?_) HS ?_
  rotate_left
  · obtain ⟨s1, s2⟩ := hS5
    go_simp
    try rfl
  try simp only [Act.put, List.setIfInBounds_toArray, List.set_cons_zero, List.set_cons_succ]
  refine Rg.Upto.take (i := 2) (v := ?_) rfl (by kernel_rfl) (by kernel_rfl) (by kernel_rfl) (by kernel_rfl) (fun _ _ _ h => h) (by rfl) (fun w5 hS5 => ?_) HS ?_
  rotate_left
  · obtain ⟨s1, s2⟩ := hS5
    go_simp
    try rfl
  try simp only [Act.put, List.setIfInBounds_toArray, List.set_cons_zero, List.set_cons_succ]
  refine Rg.Upto.take (i := 3) (v := ?_) rfl (by kernel_rfl) (by kernel_rfl) (by kernel_rfl) (by kernel_rfl) (fun _ _ _ h => h) (by rfl) (fun w5 hS5 => ?_) HS ?_
  rotate_left
  · obtain ⟨s1, s2⟩ := hS5
    go_simp
    try rfl
  try simp only [Act.put, List.setIfInBounds_toArray, List.set_cons_zero, List.set_cons_succ]
  refine Rg.Upto.take (i := 4) (v := ?_) rfl (by kernel_rfl) (by kernel_rfl) (by kernel_rfl) (by kernel_rfl) (fun _ _ _ h => h) (by rfl) (fun w5 hS5 => ?_) HS ?_
  rotate_left
  · obtain ⟨s1, s2⟩ := hS5
    go_simp
    try rfl
  try simp only [Act.put, List.setIfInBounds_toArray, List.set_cons_zero, List.set_cons_succ]
  refine Rg.Upto.take (i := 5) (v := ?_) rfl (by kernel_rfl) (by kernel_rfl) (by kernel_rfl) (by kernel_rfl) (fun _ _ _ h => h) (by rfl) (fun w5 hS5 => ?_) HS ?_
  rotate_left
  · obtain ⟨s1, s2⟩ := hS5
    go_simp
    try rfl
  try simp only [Act.put, List.setIfInBounds_toArray, List.set_cons_zero, List.set_cons_succ]
  refine Rg.Upto.take (i := 6) (v := ?_) rfl (by kernel_rfl) (by kernel_rfl) (by kernel_rfl) (by kernel_rfl) (fun _ _ _ h => h) (by rfl) (fun w5 hS5 => ?_) HS ?_
  rotate_left
  · obtain ⟨s1, s2⟩ := hS5
    go_simp
    try rfl
  try simp only [Act.put, List.setIfInBounds_toArray, List.set_cons_zero, List.set_cons_succ]
  refine Rg.Upto.take (i := 7) (v := ?_) rfl (by kernel_rfl) (by kernel_rfl) (by kernel_rfl) (by kernel_rfl) (fun _ _ _ h => h) (by rfl) (fun w5 hS5 => ?_) HS ?_
  rotate_left
  · obtain ⟨s1, s2⟩ := hS5
    go_simp
    try rfl
  try simp only [Act.put, List.setIfInBounds_toArray, List.set_cons_zero, List.set_cons_succ]
  refine Rg.Upto.take (i := 8) (v := ?_) rfl (by kernel_rfl) (by kernel_rfl) (by kernel_rfl) (by kernel_rfl) (fun _ _ _ h => h) (by rfl) (fun w5 hS5 => ?_) HS ?_
  rotate_left
  · obtain ⟨s1, s2⟩ := hS5
    go_simp
    try rfl
  try simp only [Act.put, List.setIfInBounds_toArray, List.set_cons_zero, List.set_cons_succ]
  refine Rg.Upto.take (i := 9) (v := ?_) rfl (by kernel_rfl) (by kernel_rfl) (by kernel_rfl) (by kernel_rfl) (fun _ _ _ h => h) (by rfl) (fun w5 hS5 => ?_) HS ?_
  rotate_left
  · obtain ⟨s1, s2⟩ := hS5
    go_simp
    try rfl
  try simp only [Act.put, List.setIfInBounds_toArray, List.set_cons_zero, List.set_cons_succ]
  refine Rg.Upto.take (i := 10) (v := ?_) rfl (by kernel_rfl) (by kernel_rfl) (by kernel_rfl) (by kernel_rfl) (fun _ _ _ h => h) (by rfl) (fun w5 hS5 => ?_) HS ?_
  rotate_left
  · obtain ⟨s1, s2⟩ := hS5
    go_simp
    try rfl
  try simp only [Act.put, List.setIfInBounds_toArray, List.set_cons_zero, List.set_cons_succ]
  refine Rg.Upto.take (i := 11) (v := ?_) rfl (by kernel_rfl) (by kernel_rfl) (by kernel_rfl) (by kernel_rfl) (fun _ _ _ h => h) (by rfl) (fun w5 hS5 => ?_) HS ?_
  rotate_left
  · obtain ⟨s1, s2⟩ := hS5
    go_simp
    try rfl
  try simp only [Act.put, List.setIfInBounds_toArray, List.set_cons_zero, List.set_cons_succ]
  refine Rg.Upto.take (i := 12) (v := ?_) rfl (by kernel_rfl) (by kernel_rfl) (by kernel_rfl) (by kernel_rfl) (fun _ _ _ h => h) (by rfl) (fun w5 hS5 => ?_) HS ?_
  rotate_left
  · obtain ⟨s1, s2⟩ := hS5
    go_simp
    try rfl
  try simp only [Act.put, List.setIfInBounds_toArray, List.set_cons_zero, List.set_cons_succ]
  refine Rg.Upto.take (i := 13) (v := ?_) rfl (by kernel_rfl) (by kernel_rfl) (by kernel_rfl) (by kernel_rfl) (fun _ _ _ h => h) (by rfl) (fun w5 hS5 => ?_) HS ?_
  rotate_left
  · obtain ⟨s1, s2⟩ := hS5
    go_simp
    try rfl
  try simp only [Act.put, List.setIfInBounds_toArray, List.set_cons_zero, List.set_cons_succ]
  refine Rg.Upto.take (i := 14) (v := ?_) rfl (by kernel_rfl) (by kernel_rfl) (by kernel_rfl) (by kernel_rfl) (fun _ _ _ h => h) (by rfl) (fun w5 hS5 => ?_) HS ?_
  rotate_left
  · obtain ⟨s1, s2⟩ := hS5
    go_simp
    try rfl
  try simp only [Act.put, List.setIfInBounds_toArray, List.set_cons_zero, List.set_cons_succ]
  refine Rg.Upto.take (i := 15) (v := ?_) rfl (by kernel_rfl) (by kernel_rfl) (by kernel_rfl) (by kernel_rfl) (fun _ _ _ h => h) (by rfl) (fun w5 hS5 => ?_) HS ?_
  rotate_left
  · obtain ⟨s1, s2⟩ := hS5
    go_simp
    try rfl
  try simp only [Act.put, List.setIfInBounds_toArray, List.set_cons_zero, List.set_cons_succ]
  refine Rg.Upto.one (i := 16) rfl (by kernel_rfl) (by rfl) (fun K hK => ?_)
  go_simp
  refine hK.out _ _ ⟨(World.cell?_alloc_lt wr _ _ lQ).trans b5, (World.cell?_alloc_lt wr _ _ lA).trans b1⟩ ?_
  clear hK K
  try simp only [Act.put, List.setIfInBounds_toArray, List.set_cons_zero, List.set_cons_succ]
  refine Rg.Upto.one (i := 17) rfl (by kernel_rfl) (by rfl) (fun K hK => ?_)
  refine wp_append_lies _ (.tmp 72) (.tmp 84) 72 rfl B 83 i0 _ 7 56 Try.underlying72 hi0 hz0 hz1 hz2 rfl (by omega) lv s.log.length (s.log.flatMap Acc.cells) rfl ((mL.alloc _).drew) ⟨wr.heap.size, 0, none⟩ 1 1 (Acc.cells ⟨who, kind, at_, want, put, seen, left⟩) rfl rfl
    (World.news_of_block (cs := #[.int .i64 who, .int .i64 kind, .int .i64 at_, .int .u64 want, .int .u64 put, .int .u64 seen, .int .u64 left]) (t := 83) (fr := (0, 0)) (blk_new wr _)) (by simp [Value.oneCell', Acc.cells]) (by omega) (by unfold maxLen; omega) (by omega) (by show B ≤ (wr.alloc _).heap.size; simp; omega) (wr.heap.size + 1) (by show (wr.alloc _).heap.size = _; simp) ?_
  intro gg cap w4 own4 grow4 at4 lt4
  have e0 : Fr (fun k => lv.ownBlock = some k) wr w4 := ((Fr.refl _ wr).alloc _).drew.grown grow4 (fun k hk => .inl hk)
  have fA := e0.blk mA hlm
  have fC := e0.blk mC (fun z => hlc z)
  have fQ := e0.blk mQ hlq
  obtain ⟨x1, y1⟩ := blk_cell fA 1 (v := lv) rfl
  obtain ⟨x5, y5⟩ := blk_cell fQ 0 (v := .int .i64 who) rfl
  refine hK.out _ _ ⟨x5, x1⟩ ?_
  clear hK K
  try simp only [Act.put, List.setIfInBounds_toArray, List.set_cons_zero, List.set_cons_succ]
  refine Rg.Upto.one (i := 18) rfl (by kernel_rfl) (by rfl) (fun K hK => ?_)
  go_simp
  refine hK.out _ _ ⟨x5, x1⟩ ?_
  clear hK K
  try simp only [Act.put, List.setIfInBounds_toArray, List.set_cons_zero, List.set_cons_succ]
  refine Rg.Upto.one (i := 19) rfl (by kernel_rfl) (by rfl) (fun K hK => ?_)
  go_simp
  refine hK.out _ _ ⟨x5, x1⟩ ?_
  clear hK K
  try simp only [Act.put, List.setIfInBounds_toArray, List.set_cons_zero, List.set_cons_succ]
  refine Rg.Upto.last rfl (by kernel_rfl) (by kernel_rfl) (by rfl) (fun K hK => ?_)
  go_simp
  refine hK.out _ _ ?_
  clear hK K
  go_wp2
  go_ret
  refine ⟨rfl, .slice (some ⟨gg, 0, none⟩) (s.log.length + 1) cap, ⟨?_, ?_, ?_, ?_, hkeep⟩, ?_, ?_, ?_⟩
  · have := blk_set fA 1 (.slice (some ⟨gg, 0, none⟩) (s.log.length + 1) cap)
    simpa [AS.done, hkeep] using this
  · have := blk_far fC ⟨m, 1, none⟩ (Ne.symm n1) (.slice (some ⟨gg, 0, none⟩) (s.log.length + 1) cap)
    simpa [AS.done] using this
  · have := own_far own4 ⟨m, 1, none⟩ (.slice (some ⟨gg, 0, none⟩) (s.log.length + 1) cap) (own_ne own4 fA (by decide))
    simpa [AS.done, hkeep] using this
  · simpa [AS.done] using hs
  · exact blk_far fQ ⟨m, 1, none⟩ (Ne.symm n2) _
  · exact ((mF.mono (fun k _ hk => by rcases hk with h | h | h <;> simp [h])).then e0 (fun k _ hk => .inr (.inr (.inr hk)))).setCell _ _ (.inl (.inl rfl))
  · rcases at4 with h | h
    · left; rw [h]; rfl
    · right
      intro k hk
      have e : gg = k := by simpa [Value.ownBlock] using hk
      have := mF.size
      omega

/-- Do: whatever it is asked. -/
theorem mDo (B : Nat) (w : World) (m c q : Nat) (lv : Value) (s : AS) (who kind at_ want put : Int) (g : Bool) (h : IsM B w m c lv s) (hq : IsQ w q who g) (hB : B ≤ w.heap.size) (hlen : s.log.length ≤ 1000000) (hk1 : 1 ≤ kind) (hk2 : kind ≤ 6) :
    Calls Try.prog 71 #[.pointer (some ⟨m, 0, none⟩), .pointer (some ⟨q, 0, none⟩), .int .i64 kind, .int .i64 at_, .int .u64 want, .int .u64 put] w fun e w' => e = .returned (.int .u64 (s.acc g who kind at_ want put).2) ∧ PostM B w w' m c q who lv (s.acc g who kind at_ want put).1 := by
  unfold AS.acc
  by_cases hc : g = true ∧ s.has at_ = true
  · rw [if_pos hc]
    obtain ⟨rfl, hh⟩ := hc
    have hh2 := of_decide_eq_true hh
    exact do_yes B w m c q lv s who kind at_ want put _ _ h hq hB hlen hh2.1 hh2.2 rfl rfl hk1 hk2
  · rw [if_neg hc]
    exact do_no B w m c q lv s who kind at_ want put g h hq hc
end Go.Proofs.Ytdcikbhfoplkmaa.Ar
/- The program's arena and the chapter's, side by side. -/
namespace Go.Proofs.Ytdcikbhfoplkmaa.Ar
open Go Go.RowKit Go.Proofs.Ytdcikbhfoplkmaa.Hp
set_option linter.unusedVariables false
set_option linter.unusedSimpArgs false

/-- A block that a call on one of the two may turn. -/
def TouchD (c c2 : Nat) (w : World) (k : Nat) : Prop := k = c ∨ k = c2 ∨ ∃ cs t f, w.heap[k]? = some (.cells cs t f) ∧ (t = 94 ∨ t = 109 ∨ t = 83 ∨ t = 74 ∨ t = 127)

theorem not_touchD {c c2 k : Nat} {w : World} {cs : Array Value} {t : TypeId} {f : Nat × Nat} (h : w.heap[k]? = some (.cells cs t f)) (hc : k ≠ c ∧ k ≠ c2) (ht : t ≠ 94 ∧ t ≠ 109 ∧ t ≠ 83 ∧ t ≠ 74 ∧ t ≠ 127) : ¬ TouchD c c2 w k := by
  rintro (e | e | ⟨cs', t', f', h', h2⟩)
  · exact hc.1 e
  · exact hc.2 e
  · rw [h] at h'
    injection h' with h'
    injection h' with _ h' _
    subst h'
    rcases h2 with e | e | e | e | e
    · exact ht.1 e
    · exact ht.2.1 e
    · exact ht.2.2.1 e
    · exact ht.2.2.2.1 e
    · exact ht.2.2.2.2 e

structure Duo (B : Nat) (w : World) (a c : Nat) (s : AS) (ps : List (Nat × Int × Bool)) (m c2 : Nat) (t : AS) (qs : List (Nat × Int × Bool)) : Prop where
  both : ∃ lv lv2, IsA B w a c lv s ∧ IsM B w m c2 lv2 t ∧ ∀ k, lv.ownBlock = some k → lv2.ownBlock ≠ some k
  cc : c ≠ c2
  base : B ≤ w.heap.size ∧ B ≤ a ∧ B ≤ c ∧ B ≤ m ∧ B ≤ c2
  pt : ∀ x ∈ ps, IsP w x.1 a x.2.1 x.2.2 ∧ B ≤ x.1
  nd : (ps.map (·.1)).Nodup
  qt : ∀ x ∈ qs, IsQ w x.1 x.2.1 x.2.2 ∧ B ≤ x.1
  qd : (qs.map (·.1)).Nodup

structure DidD (B : Nat) (w w' : World) (a c : Nat) (s : AS) (ps : List (Nat × Int × Bool)) (m c2 : Nat) (t : AS) (qs : List (Nat × Int × Bool)) : Prop where
  duo : Duo B w' a c s ps m c2 t qs
  bel : Below B w w'
  fr : Fr (TouchD c c2 w) w w'

section
variable {B : Nat} {w w' : World} {a c m c2 : Nat} {s s' t t' : AS} {ps qs : List (Nat × Int × Bool)}

theorem Duo.sys (h : Duo B w a c s ps m c2 t qs) : Sys B w a c s ps := by
  obtain ⟨lv, lv2, hA, hM, hd⟩ := h.both
  exact ⟨⟨lv, hA⟩, ⟨h.base.1, h.base.2.1, h.base.2.2.1⟩, h.pt, h.nd⟩
theorem own_touch {e : Nat} {size n : Nat} {lv : Value} {xs : List Value} (hl : w.ownsRow B e size lv n xs) (k : Nat) (hk : lv.ownBlock = some k) : ∃ cs, w.heap[k]? = some (.cells cs e (0, 0)) := by
  rcases hl.2 with ⟨rfl, _⟩ | ⟨g, cap, cur, rfl, _, hg, _⟩
  · simp [Value.ownBlock] at hk
  · simp only [Value.ownBlock, Option.some.injEq] at hk
    subst hk
    exact ⟨cur, hg⟩

/-- What turns none of their blocks leaves them as they are. -/
theorem Duo.fr {S : Nat → Prop} (h : Duo B w a c s ps m c2 t qs) (hF : Fr S w w') (hS : ∀ k, k < w.heap.size → S k → ¬ TouchD c c2 w k) : Duo B w' a c s ps m c2 t qs := by
  obtain ⟨⟨lv, lv2, hA, hM, hd⟩, hcc, hb, hp, hn, hq, hqn⟩ := h
  refine ⟨⟨lv, lv2, hA.fr hF ?_ ?_ ?_, hM.fr hF ?_ ?_ ?_, hd⟩, hcc, ⟨Nat.le_trans hb.1 hF.size, hb.2⟩, fun x hx => ⟨(hp x hx).1.fr hF ?_, (hp x hx).2⟩, hn, fun x hx => ⟨(hq x hx).1.fr hF ?_, (hq x hx).2⟩, hqn⟩
  · exact fun z => hS a (blk_lt hA.blk) z (.inr (.inr ⟨_, _, _, hA.blk, .inl rfl⟩))
  · exact fun z => hS c (blk_lt hA.cel) z (.inl rfl)
  · intro k hk z
    obtain ⟨cs, hc⟩ := own_touch hA.log k hk
    exact hS k (blk_lt hc) z (.inr (.inr ⟨_, _, _, hc, .inr (.inr (.inl rfl))⟩))
  · exact fun z => hS m (blk_lt hM.blk) z (.inr (.inr ⟨_, _, _, hM.blk, .inr (.inr (.inr (.inl rfl)))⟩))
  · exact fun z => hS c2 (blk_lt hM.cel) z (.inr (.inl rfl))
  · intro k hk z
    obtain ⟨cs, hc⟩ := own_touch hM.log k hk
    exact hS k (blk_lt hc) z (.inr (.inr ⟨_, _, _, hc, .inr (.inr (.inl rfl))⟩))
  · exact fun z => hS x.1 (blk_lt (hp x hx).1) z (.inr (.inr ⟨_, _, _, (hp x hx).1, .inr (.inl rfl)⟩))
  · exact fun z => hS x.1 (blk_lt (hq x hx).1) z (.inr (.inr ⟨_, _, _, (hq x hx).1, .inr (.inr (.inr (.inr rfl)))⟩))
theorem Duo.still (h : Duo B w a c s ps m c2 t qs) (hF : Fr (fun _ => False) w w') : Duo B w' a c s ps m c2 t qs := h.fr hF (fun _ _ => False.elim)
theorem Duo.alloc (h : Duo B w a c s ps m c2 t qs) (o : Obj) : Duo B (w.alloc o) a c s ps m c2 t qs := h.still ((Fr.refl _ w).alloc o)
theorem Duo.drewN (h : Duo B w a c s ps m c2 t qs) (n : Nat) : Duo B (w.drewN n) a c s ps m c2 t qs := h.still ((Fr.refl _ w).drewN n)
theorem Duo.drew (h : Duo B w a c s ps m c2 t qs) : Duo B w.drew a c s ps m c2 t qs := h.still ((Fr.refl _ w).drew)
theorem Duo.below (h : Duo B w a c s ps m c2 t qs) (hb : Below w.heap.size w w') : Duo B w' a c s ps m c2 t qs :=
  h.still ⟨hb.os, hb.tape, hb.output, hb.size, fun k hk _ => hb.block k hk⟩
theorem Duo.other {k : Nat} (h : Duo B w a c s ps m c2 t qs) (hk : ¬ TouchD c c2 w k) (j : Nat) (u : Value) : Duo B (w.setCell ⟨k, j, none⟩ u) a c s ps m c2 t qs :=
  h.fr (S := fun i => i = k) ((Fr.refl _ w).setCell _ _ (.inl rfl)) (fun i _ e => by subst e; exact hk)

/-- A call on the program's arena. -/
theorem Duo.actA {lv lv2 lv' : Value} {S : Nat → Prop} {ps' : List (Nat × Int × Bool)} (h : Duo B w a c s ps m c2 t qs) (hA : IsA B w a c lv s) (hM : IsM B w m c2 lv2 t) (hd : ∀ k, lv.ownBlock = some k → lv2.ownBlock ≠ some k)
    (hS : Sys B w' a c s' ps') (hA' : IsA B w' a c lv' s') (hF : Fr S w w') (hSS : ∀ k, S k → k = a ∨ k ∈ ps.map (·.1) ∨ k = c ∨ lv.ownBlock = some k) (hl : lv'.ownBlock = lv.ownBlock ∨ ∀ k, lv'.ownBlock = some k → w.heap.size ≤ k) (hbel : Below B w w') :
    DidD B w w' a c s' ps' m c2 t qs := by
  have am : a ≠ m := blk_ne hA.blk hM.blk (by decide)
  have ac2 : a ≠ c2 := blk_ne hA.blk hM.cel (by decide)
  have mc : m ≠ c := blk_ne hM.blk hA.cel (by decide)
  have hpb : ∀ k, k ∈ ps.map (·.1) → ∃ cs, w.heap[k]? = some (.cells cs 109 (0, 0)) := by
    intro k hk
    obtain ⟨x, hx, rfl⟩ := List.mem_map.1 hk
    exact ⟨_, (h.pt x hx).1⟩
  have n1 : ∀ {k cs e}, w.heap[k]? = some (.cells cs e (0, 0)) → k ≠ c → e ≠ 94 → e ≠ 109 → e ≠ 83 → ¬ S k := by
    intro k cs e hk h1 h2 h3 h4 z
    rcases hSS k z with r | r | r | r
    · exact (blk_ne hk hA.blk h2) r
    · obtain ⟨cs', hc'⟩ := hpb k r
      exact (blk_ne hk hc' h3) rfl
    · exact h1 r
    · obtain ⟨cs', hc'⟩ := own_touch hA.log k r
      exact (blk_ne hk hc' h4) rfl
  refine ⟨⟨⟨lv', lv2, hA', hM.fr hF (n1 hM.blk mc (by decide) (by decide) (by decide)) (n1 hM.cel (Ne.symm h.cc) (by decide) (by decide) (by decide)) ?_, ?_⟩, h.cc, ⟨hS.base.1, h.base.2⟩, hS.pt, hS.nd, fun x hx => ⟨(h.qt x hx).1.fr hF (n1 (h.qt x hx).1 ?_ (by decide) (by decide) (by decide)), (h.qt x hx).2⟩, h.qd⟩, hbel, hF.mono fun k hk z => ?_⟩
  · intro k hk z
    obtain ⟨cs, hc⟩ := own_touch hM.log k hk
    rcases hSS k z with r | r | r | r
    · exact (blk_ne hc hA.blk (by decide)) r
    · obtain ⟨cs', hc'⟩ := hpb k r
      exact (blk_ne hc hc' (by decide)) rfl
    · exact (blk_ne hc hA.cel (by decide)) r
    · exact hd k r hk
  · intro k hk hk2
    rcases hl with e | e
    · rw [e] at hk
      exact hd k hk hk2
    · have := e k hk
      obtain ⟨cs, hc⟩ := own_touch hM.log k hk2
      have := blk_lt hc
      omega
  · exact blk_ne (h.qt x hx).1 hA.cel (by decide)
  · rcases hSS k z with r | r | r | r
    · subst r; exact .inr (.inr ⟨_, _, _, hA.blk, .inl rfl⟩)
    · obtain ⟨cs', hc'⟩ := hpb k r
      exact .inr (.inr ⟨_, _, _, hc', .inr (.inl rfl)⟩)
    · exact .inl r
    · obtain ⟨cs', hc'⟩ := own_touch hA.log k r
      exact .inr (.inr ⟨_, _, _, hc', .inr (.inr (.inl rfl))⟩)

theorem Duo.did {lv lv2 : Value} {p : Nat} {who : Int} {g : Bool} {i : Nat} (h : Duo B w a c s ps m c2 t qs) (hA : IsA B w a c lv s) (hM : IsM B w m c2 lv2 t) (hd : ∀ k, lv.ownBlock = some k → lv2.ownBlock ≠ some k) (hi : ps[i]? = some (p, who, g)) (hw : Post B w w' p a c who lv s') :
    DidD B w w' a c s' (ps.set i (p, who, false)) m c2 t qs := by
  have hD := h.sys.did hA hi hw
  obtain ⟨lv', hA', hP', hF, hl⟩ := hw
  refine h.actA hA hM hd hD.sys hA' hF (fun k z => ?_) hl hD.bel
  rcases z with r | r | r | r
  · exact .inl r
  · exact .inr (.inl (List.mem_map.2 ⟨_, List.mem_of_getElem? hi, r.symm⟩))
  · exact .inr (.inr (.inl r))
  · exact .inr (.inr (.inr r))

theorem Duo.load {p : Nat} {who : Int} {g : Bool} (h : Duo B w a c s ps m c2 t qs) (i : Nat) (at_ : Int) (hi : ps[i]? = some (p, who, g)) (hl : s.log.length ≤ 1000000) :
    Calls Try.prog 51 #[.pointer (some ⟨p, 0, none⟩), .int .i64 at_] w fun e w' => e = .returned (.int .u64 (s.acc g who 1 at_ 0 0).2) ∧ DidD B w w' a c (s.acc g who 1 at_ 0 0).1 (ps.set i (p, who, false)) m c2 t qs := by
  obtain ⟨lv, lv2, hA, hM, hd⟩ := h.both
  exact (mLoad B w p a c lv s who at_ g hA (h.pt _ (List.mem_of_getElem? hi)).1 h.base.1 hl).mono fun e w' hw => ⟨hw.1, h.did hA hM hd hi hw.2⟩
theorem Duo.store {p : Nat} {who : Int} {g : Bool} (h : Duo B w a c s ps m c2 t qs) (i : Nat) (at_ v : Int) (hi : ps[i]? = some (p, who, g)) (hl : s.log.length ≤ 1000000) :
    Calls Try.prog 52 #[.pointer (some ⟨p, 0, none⟩), .int .i64 at_, .int .u64 v] w fun e w' => e = .returned (.tuple #[]) ∧ DidD B w w' a c (s.acc g who 2 at_ 0 v).1 (ps.set i (p, who, false)) m c2 t qs := by
  obtain ⟨lv, lv2, hA, hM, hd⟩ := h.both
  exact (mStore B w p a c lv s who at_ v g hA (h.pt _ (List.mem_of_getElem? hi)).1 h.base.1 hl).mono fun e w' hw => ⟨hw.1, h.did hA hM hd hi hw.2⟩
theorem Duo.grant {p : Nat} {who : Int} {g : Bool} (h : Duo B w a c s ps m c2 t qs) (i : Nat) (hi : ps[i]? = some (p, who, g)) :
    Calls Try.prog 43 #[.pointer (some ⟨p, 0, none⟩)] w fun e w' => e = .returned (.tuple #[]) ∧ DidD B w w' a c s (ps.set i (p, who, true)) m c2 t qs := by
  obtain ⟨lv, lv2, hA, hM, hd⟩ := h.both
  refine (Ar.grant w p a who g (h.pt _ (List.mem_of_getElem? hi)).1).mono fun e w' hw => ⟨hw.1, ?_⟩
  have hD := h.sys.granted hi hw.2.1 hw.2.2
  have hPp := (h.pt _ (List.mem_of_getElem? hi)).1
  refine h.actA hA hM hd hD.sys (hA.fr hw.2.2 (hA.ap hPp) (hA.cp hPp) (fun k hk e => hA.lp hPp (hk.trans (congrArg some e)))) hw.2.2 (fun k z => .inr (.inl (List.mem_map.2 ⟨_, List.mem_of_getElem? hi, z.symm⟩))) (.inl rfl) hD.bel
theorem Duo.poke (h : Duo B w a c s ps m c2 t qs) (at_ v : Int) (hh : s.has at_ = true) :
    Calls Try.prog 31 #[.pointer (some ⟨a, 0, none⟩), .int .i64 at_, .int .u64 v] w fun e w' => e = .returned (.int .i64 0) ∧ DidD B w w' a c (s.poked at_ v) ps m c2 t qs := by
  obtain ⟨lv, lv2, hA, hM, hd⟩ := h.both
  refine (mPoke B w a c lv s at_ v hA hh).mono fun e w' hw => ⟨hw.1, ?_⟩
  refine h.actA hA hM hd ⟨⟨lv, hw.2.1⟩, ⟨Nat.le_trans h.base.1 hw.2.2.size, h.base.2.1, h.base.2.2.1⟩, fun x hx => ⟨(h.pt x hx).1.fr hw.2.2 (fun e => hA.cp (h.pt x hx).1 e.symm), (h.pt x hx).2⟩, h.nd⟩ hw.2.1 hw.2.2 (fun k z => .inr (.inr (.inl z))) (.inl rfl) ⟨hw.2.2.os, hw.2.2.tape, hw.2.2.output, hw.2.2.size, fun k hk => hw.2.2.block k (by have := h.base.1; omega) (fun e => by have := h.base.2.2.1; omega)⟩

/-- A call on the chapter's. -/
theorem Duo.actM {lv lv2 lv' : Value} {S : Nat → Prop} {qs' : List (Nat × Int × Bool)} (h : Duo B w a c s ps m c2 t qs) (hA : IsA B w a c lv s) (hM : IsM B w m c2 lv2 t) (hd : ∀ k, lv.ownBlock = some k → lv2.ownBlock ≠ some k)
    (hq' : ∀ x ∈ qs', IsQ w' x.1 x.2.1 x.2.2 ∧ B ≤ x.1) (hqd' : (qs'.map (·.1)).Nodup) (hM' : IsM B w' m c2 lv' t') (hF : Fr S w w') (hSS : ∀ k, S k → k = m ∨ k ∈ qs.map (·.1) ∨ k = c2 ∨ lv2.ownBlock = some k) (hl : lv'.ownBlock = lv2.ownBlock ∨ ∀ k, lv'.ownBlock = some k → w.heap.size ≤ k) :
    DidD B w w' a c s ps m c2 t' qs' := by
  have hqb : ∀ k, k ∈ qs.map (·.1) → B ≤ k ∧ ∃ cs, w.heap[k]? = some (.cells cs 127 (0, 0)) := by
    intro k hk
    obtain ⟨x, hx, rfl⟩ := List.mem_map.1 hk
    exact ⟨(h.qt x hx).2, _, (h.qt x hx).1⟩
  have n1 : ∀ {k cs e}, w.heap[k]? = some (.cells cs e (0, 0)) → k ≠ c2 → e ≠ 74 → e ≠ 127 → e ≠ 83 → ¬ S k := by
    intro k cs e hk h1 h2 h3 h4 z
    rcases hSS k z with r | r | r | r
    · exact (blk_ne hk hM.blk h2) r
    · obtain ⟨_, cs', hc'⟩ := hqb k r
      exact (blk_ne hk hc' h3) rfl
    · exact h1 r
    · obtain ⟨cs', hc'⟩ := own_touch hM.log k r
      exact (blk_ne hk hc' h4) rfl
  have ac2 : a ≠ c2 := blk_ne hA.blk hM.cel (by decide)
  refine ⟨⟨⟨lv, lv', hA.fr hF (n1 hA.blk ac2 (by decide) (by decide) (by decide)) (n1 hA.cel h.cc (by decide) (by decide) (by decide)) ?_, hM', ?_⟩, h.cc, ⟨Nat.le_trans h.base.1 hF.size, h.base.2⟩, fun x hx => ⟨(h.pt x hx).1.fr hF (n1 (h.pt x hx).1 ?_ (by decide) (by decide) (by decide)), (h.pt x hx).2⟩, h.nd, hq', hqd'⟩, ?_, hF.mono fun k hk z => ?_⟩
  · intro k hk z
    obtain ⟨cs, hc⟩ := own_touch hA.log k hk
    rcases hSS k z with r | r | r | r
    · exact (blk_ne hc hM.blk (by decide)) r
    · obtain ⟨_, cs', hc'⟩ := hqb k r
      exact (blk_ne hc hc' (by decide)) rfl
    · exact (blk_ne hc hM.cel (by decide)) r
    · exact hd k hk r
  · intro k hk hk2
    rcases hl with e | e
    · rw [e] at hk2
      exact hd k hk hk2
    · have := e k hk2
      obtain ⟨cs, hc⟩ := own_touch hA.log k hk
      have := blk_lt hc
      omega
  · exact blk_ne (h.pt x hx).1 hM.cel (by decide)
  · refine ⟨hF.os, hF.tape, hF.output, hF.size, fun k hk => hF.block k (by have := h.base.1; omega) (fun z => ?_)⟩
    rcases hSS k z with r | r | r | r
    · have := h.base.2.2.2.1; omega
    · have := (hqb k r).1; omega
    · have := h.base.2.2.2.2; omega
    · have := (hM.log.lt k r).1; omega
  · rcases hSS k z with r | r | r | r
    · subst r; exact .inr (.inr ⟨_, _, _, hM.blk, .inr (.inr (.inr (.inl rfl)))⟩)
    · obtain ⟨_, cs', hc'⟩ := hqb k r
      exact .inr (.inr ⟨_, _, _, hc', .inr (.inr (.inr (.inr rfl)))⟩)
    · exact .inr (.inl r)
    · obtain ⟨cs', hc'⟩ := own_touch hM.log k r
      exact .inr (.inr ⟨_, _, _, hc', .inr (.inr (.inl rfl))⟩)
/-- One of the chapter's ports, anew. -/
theorem qs_set {q : Nat} {who : Int} {g g' : Bool} {i : Nat} {S : Nat → Prop} (hq : ∀ x ∈ qs, IsQ w x.1 x.2.1 x.2.2 ∧ B ≤ x.1) (hqd : (qs.map (·.1)).Nodup) (hi : qs[i]? = some (q, who, g)) (hQ : IsQ w' q who g') (hF : Fr S w w')
    (hS : ∀ x ∈ qs, x.1 ≠ q → ¬ S x.1) : (∀ x ∈ qs.set i (q, who, g'), IsQ w' x.1 x.2.1 x.2.2 ∧ B ≤ x.1) ∧ ((qs.set i (q, who, g')).map (·.1)).Nodup := by
  have hm : (q, who, g) ∈ qs := List.mem_of_getElem? hi
  constructor
  · obtain ⟨l1, l2, e1, e2, _⟩ := set_split (q, who, g') hi
    rw [e2]
    rw [e1] at hqd hq hS
    simp only [List.map_append, List.map_cons, List.nodup_append, List.nodup_cons] at hqd
    intro x hx
    have hx' : x = (q, who, g') ∨ (x ∈ l1 ++ (q, who, g) :: l2 ∧ x.1 ≠ q) := by
      rcases List.mem_append.1 hx with h1 | h1
      · refine .inr ⟨List.mem_append.2 (.inl h1), ?_⟩
        rintro rfl
        exact hqd.2.2 x.1 (List.mem_map.2 ⟨x, h1, rfl⟩) x.1 (by simp) rfl
      · rcases List.mem_cons.1 h1 with h2 | h2
        · exact .inl h2
        · refine .inr ⟨List.mem_append.2 (.inr (List.mem_cons_of_mem _ h2)), ?_⟩
          rintro rfl
          exact hqd.2.1.1 (List.mem_map.2 ⟨x, h2, rfl⟩)
    rcases hx' with rfl | ⟨hx', hne⟩
    · exact ⟨hQ, (hq (q, who, g) (by simp)).2⟩
    · exact ⟨(hq x hx').1.fr hF (hS x hx' hne), (hq x hx').2⟩
  · rw [List.map_set]
    obtain ⟨l1, l2, e1, e2, _⟩ := set_split q (show (qs.map (·.1))[i]? = some q by rw [List.getElem?_map, hi]; rfl)
    rw [e2, ← e1]
    exact hqd
theorem Duo.do_ {q : Nat} {who : Int} {g : Bool} (h : Duo B w a c s ps m c2 t qs) (i : Nat) (kind at_ want put : Int) (hi : qs[i]? = some (q, who, g)) (hl : t.log.length ≤ 1000000) (hk1 : 1 ≤ kind) (hk2 : kind ≤ 6) :
    Calls Try.prog 71 #[.pointer (some ⟨m, 0, none⟩), .pointer (some ⟨q, 0, none⟩), .int .i64 kind, .int .i64 at_, .int .u64 want, .int .u64 put] w fun e w' => e = .returned (.int .u64 (t.acc g who kind at_ want put).2) ∧ DidD B w w' a c s ps m c2 (t.acc g who kind at_ want put).1 (qs.set i (q, who, false)) := by
  obtain ⟨lv, lv2, hA, hM, hd⟩ := h.both
  have hm : (q, who, g) ∈ qs := List.mem_of_getElem? hi
  refine (mDo B w m c2 q lv2 t who kind at_ want put g hM (h.qt _ hm).1 h.base.1 hl hk1 hk2).mono fun e w' hw => ⟨hw.1, ?_⟩
  obtain ⟨lv', hM', hQ', hF, hlv⟩ := hw.2
  obtain ⟨k1, k2⟩ := qs_set h.qt h.qd hi hQ' hF (fun x hx hne z => by
    rcases z with r | r | r | r
    · exact (hM.mq (h.qt x hx).1) r.symm
    · exact hne r
    · exact (hM.cq (h.qt x hx).1) r.symm
    · exact hM.lq (h.qt x hx).1 r)
  refine h.actM hA hM hd k1 k2 hM' hF (fun k z => ?_) hlv
  rcases z with r | r | r | r
  · exact .inl r
  · exact .inr (.inl (List.mem_map.2 ⟨_, hm, r.symm⟩))
  · exact .inr (.inr (.inl r))
  · exact .inr (.inr (.inr r))
/-- One of the chapter's cells is set. -/
theorem Duo.setM (h : Duo B w a c s ps m c2 t qs) (at_ v : Int) : DidD B w (w.setCell ⟨c2, at_.toNat, none⟩ (.int .u64 v)) a c s ps m c2 (t.poked at_ v) qs := by
  obtain ⟨lv, lv2, hA, hM, hd⟩ := h.both
  have hF : Fr (fun k => k = c2) w (w.setCell ⟨c2, at_.toNat, none⟩ (.int .u64 v)) := (Fr.refl _ w).setCell _ _ (.inl rfl)
  refine h.actM hA hM hd (fun x hx => ⟨(h.qt x hx).1.fr hF (fun e => hM.cq (h.qt x hx).1 e.symm), (h.qt x hx).2⟩) h.qd (lv' := lv2) ⟨?_, ?_, own_far hM.log _ _ hM.lc, by simpa [AS.poked] using hM.small, hM.keep⟩ hF (fun k z => .inr (.inr (.inl z))) (.inl rfl)
  · have := blk_far hM.blk ⟨c2, at_.toNat, none⟩ hM.mc (.int .u64 v)
    simpa [AS.poked] using this
  · have := blk_set hM.cel at_.toNat (.int .u64 v)
    rw [this]
    simp [AS.poked, List.map_set]
end
end Go.Proofs.Ytdcikbhfoplkmaa.Ar

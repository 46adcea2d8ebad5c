/- What (*arena.Port).access does: a fault; an access that is made. -/
import Derived.Test.YtdcikbhfoplkmaaRg
namespace Go.Proofs.Ytdcikbhfoplkmaa.Ar
open Go Go.RowKit Go.Proofs.Ytdcikbhfoplkmaa.Hp
set_option linter.unusedVariables false
set_option linter.unusedSimpArgs false

theorem infoAcc : (Try.prog.info? 83).map (fun i => (i.zero, i.size, i.bytes)) = some (some (.agg #[.int .i64 0, .int .i64 0, .int .i64 0, .int .u64 0, .int .u64 0, .int .u64 0, .int .u64 0]), 7, 56) := by kernel_rfl

/-- An access was made. -/
def AS.done (s : AS) (x : Acc) : AS := { cells := s.cells.set x.at_.toNat x.left, log := if s.keep = true then s.log ++ [x] else s.log, keep := s.keep, count := wrap64 (s.count + 1), faults := s.faults }
/-- A call that made none. -/
def AS.fault (s : AS) : AS := { s with faults := wrap64 (s.faults + 1) }

theorem own_far {B : Nat} {w : World} {e size n : Nat} {v : Value} {xs : List Value} (h : w.ownsRow B e size v n xs) (p : Addr) (u : Value) (hp : v.ownBlock ≠ some p.block) : (w.setCell p u).ownsRow B e size v n xs :=
  h.kept (row := some p.block) ⟨rfl, rfl, rfl, by simp [World.setCell], fun k _ hk => Below.heap_setCell w p u k (fun e => hk (by rw [e]))⟩ (.inr hp)
theorem own_fr {S : Nat → Prop} {B : Nat} {w w' : World} {e size n : Nat} {v : Value} {xs : List Value} (h : w.ownsRow B e size v n xs) (hf : Fr S w w') (hs : ∀ k, v.ownBlock = some k → ¬ S k) : w'.ownsRow B e size v n xs := by
  refine ⟨h.1, ?_⟩
  rcases h.2 with h2 | ⟨g, cap, cur, rfl, h3, h4, h5⟩
  · exact .inl h2
  · exact .inr ⟨g, cap, cur, rfl, h3, hf.blk h4 (hs g rfl), h5⟩
theorem own_ne {B : Nat} {w : World} {e size n t k : Nat} {v : Value} {xs : List Value} {cs : Array Value} {f : Nat × Nat} (h : w.ownsRow B e size v n xs) (hk : w.heap[k]? = some (.cells cs t f)) (ht : e ≠ t) : v.ownBlock ≠ some k := by
  rcases h.2 with ⟨rfl, _⟩ | ⟨g, cap, cur, rfl, _, hgg, _⟩
  · simp [Value.ownBlock]
  · simp only [Value.ownBlock]; intro e; injection e with e; exact blk_ne hgg hk ht e

theorem IsA.la {B : Nat} {w : World} {a c : Nat} {lv : Value} {s : AS} (h : IsA B w a c lv s) : lv.ownBlock ≠ some a := own_ne h.log h.blk (by decide)
theorem IsA.lc {B : Nat} {w : World} {a c : Nat} {lv : Value} {s : AS} (h : IsA B w a c lv s) : lv.ownBlock ≠ some c := own_ne h.log h.cel (by decide)
theorem IsA.lp {B : Nat} {w : World} {a c p : Nat} {lv : Value} {s : AS} {who : Int} {g : Bool} (h : IsA B w a c lv s) (hp : IsP w p a who g) : lv.ownBlock ≠ some p := own_ne h.log hp (by decide)
theorem IsA.fr {S : Nat → Prop} {B : Nat} {w w' : World} {a c : Nat} {lv : Value} {s : AS} (h : IsA B w a c lv s) (hf : Fr S w w') (ha : ¬ S a) (hc : ¬ S c) (hl : ∀ k, lv.ownBlock = some k → ¬ S k) : IsA B w' a c lv s :=
  ⟨hf.blk h.blk ha, hf.blk h.cel hc, own_fr h.log hf hl, h.small⟩
theorem IsP.fr {S : Nat → Prop} {w w' : World} {p a : Nat} {who : Int} {g : Bool} (h : IsP w p a who g) (hf : Fr S w w') (hp : ¬ S p) : IsP w' p a who g := hf.blk h hp

/-- The world behind a fault. -/
theorem IsA.faulted {B : Nat} {w : World} {a c p : Nat} {lv : Value} {s : AS} {who : Int} {g : Bool} (h : IsA B w a c lv s) (hp : IsP w p a who g) (v : Value) (hv : v = .bool false) (u : Value) (hu : u = .int .i64 (wrap64 (s.faults + 1))) :
    IsA B ((w.setCell ⟨p, 2, none⟩ v).setCell ⟨a, 4, none⟩ u) a c lv s.fault ∧ IsP ((w.setCell ⟨p, 2, none⟩ v).setCell ⟨a, 4, none⟩ u) p a who false ∧ Fr (fun k => k = a ∨ k = p) w ((w.setCell ⟨p, 2, none⟩ v).setCell ⟨a, 4, none⟩ u) := by
  have n1 := h.ac
  have n2 := h.ap hp
  have n3 := h.cp hp
  subst hv hu
  refine ⟨⟨?_, blk_far (blk_far h.cel _ n3 _) _ (Ne.symm n1) _, own_far (own_far h.log _ _ (h.lp hp)) _ _ h.la, h.small⟩, ?_, ((Fr.refl _ w).setCell _ _ (.inl (.inr rfl))).setCell _ _ (.inl (.inl rfl))⟩
  · have := blk_set (blk_far h.blk ⟨p, 2, none⟩ n2 (.bool false)) 4 (.int .i64 (wrap64 (s.faults + 1)))
    simpa [AS.fault] using this
  · have := blk_far (blk_set hp 2 (.bool false)) ⟨a, 4, none⟩ (Ne.symm n2) (.int .i64 (wrap64 (s.faults + 1)))
    simpa [IsP] using this

set_option maxHeartbeats 8000000 in
theorem access_no (B : Nat) (w : World) (p a c : Nat) (lv : Value) (s : AS) (who kind at_ want put : Int) (g : Bool) (fv : Value) (h : IsA B w a c lv s) (hp : IsP w p a who g) (hg : g = true → s.has at_ = false) :
    Calls Try.prog 65 #[.pointer (some ⟨p, 0, none⟩), .int .i64 kind, .int .i64 at_, .int .u64 want, .int .u64 put, fv] w fun e w' => e = .returned (.int .u64 0) ∧ IsA B w' a c lv s.fault ∧ IsP w' p a who false ∧ Fr (fun k => k = a ∨ k = p) w w' := by
  have HE := IsA.faulted h hp
  obtain ⟨c0, f0⟩ := blk_cell h.blk 0 (v := .slice (some ⟨c, 0, none⟩) s.cells.length s.cells.length) rfl
  obtain ⟨c4, f4⟩ := blk_cell h.blk 4 (v := .int .i64 s.faults) rfl
  obtain ⟨p0, q0⟩ := blk_cell hp 0 (v := .pointer (some ⟨a, 0, none⟩)) rfl
  obtain ⟨p2, q2⟩ := blk_cell hp 2 (v := .bool g) rfl
  have hi := inside B w a c lv s at_ h
  have n1 := h.ac
  have n2 := h.ap hp
  have n3 := h.cp hp
  clear h hp
  cases g with
  | false =>
    clear hg hi
    go_enter Try.func65, Try.ntmps65
    go_wp2
    go_ret
    exact ⟨rfl, HE _ rfl _ rfl⟩
  | true =>
    rw [hg rfl] at hi
    go_enter Try.func65, Try.ntmps65
    go_wp2_with (first | (go_at_call 53; refine hi.mono ?_; rintro e w' ⟨rfl, rfl⟩))
    go_ret
    exact ⟨rfl, HE _ rfl _ rfl⟩

/-- The world behind an access, ahead of its log. -/
theorem IsA.mid {B : Nat} {w : World} {a c p : Nat} {lv : Value} {s : AS} {who : Int} {g : Bool} (h : IsA B w a c lv s) (hp : IsP w p a who g) (at_ left : Int) (D : Nat → Prop) (w2 : World)
    (hD : ∀ k, D k → k ≠ a ∧ k ≠ c ∧ k ≠ p ∧ lv.ownBlock ≠ some k) (h2 : Fr D (w.setCell ⟨p, 2, none⟩ (.bool false)) w2) :
    IsA B ((w2.setCell ⟨c, at_.toNat, none⟩ (.int .u64 left)).setCell ⟨a, 3, none⟩ (.int .i64 (wrap64 (s.count + 1)))) a c lv { s with cells := s.cells.set at_.toNat left, count := wrap64 (s.count + 1) } ∧
    IsP ((w2.setCell ⟨c, at_.toNat, none⟩ (.int .u64 left)).setCell ⟨a, 3, none⟩ (.int .i64 (wrap64 (s.count + 1)))) p a who false ∧
    Fr (fun k => k = a ∨ k = p ∨ k = c ∨ D k) w ((w2.setCell ⟨c, at_.toNat, none⟩ (.int .u64 left)).setCell ⟨a, 3, none⟩ (.int .i64 (wrap64 (s.count + 1)))) := by
  have n1 := h.ac
  have n2 := h.ap hp
  have n3 := h.cp hp
  have h0 : Fr (fun k => k = a ∨ k = p ∨ k = c ∨ D k) w (w.setCell ⟨p, 2, none⟩ (.bool false)) := (Fr.refl _ w).setCell _ _ (.inl (.inr (.inl rfl)))
  have hA := h2.blk (blk_far h.blk ⟨p, 2, none⟩ n2 (.bool false)) (fun z => (hD a z).1 rfl)
  have hC := h2.blk (blk_far h.cel ⟨p, 2, none⟩ n3 (.bool false)) (fun z => (hD c z).2.1 rfl)
  have hP := h2.blk (blk_set hp 2 (.bool false)) (fun z => (hD p z).2.2.1 rfl)
  have hL := own_fr (own_far h.log ⟨p, 2, none⟩ (.bool false) (h.lp hp)) h2 (fun k hk z => (hD k z).2.2.2 hk)
  refine ⟨⟨?_, ?_, own_far (own_far hL _ _ h.lc) _ _ h.la, by simpa using h.small⟩, ?_, ((h0.then h2 (fun k _ hk => .inr (.inr (.inr hk)))).setCell _ _ (.inl (.inr (.inr (.inl rfl))))).setCell _ _ (.inl (.inl rfl))⟩
  · have := blk_set (blk_far hA ⟨c, at_.toNat, none⟩ n1 (.int .u64 left)) 3 (.int .i64 (wrap64 (s.count + 1)))
    simpa using this
  · have := blk_far (blk_set hC at_.toNat (.int .u64 left)) ⟨a, 3, none⟩ (Ne.symm n1) (.int .i64 (wrap64 (s.count + 1)))
    rw [this]
    simp [List.map_set]
  · have := blk_far (blk_far hP ⟨c, at_.toNat, none⟩ (Ne.symm n3) (.int .u64 left)) ⟨a, 3, none⟩ (Ne.symm n2) (.int .i64 (wrap64 (s.count + 1)))
    simpa [IsP] using this

set_option maxHeartbeats 8000000 in
theorem access (B : Nat) (w : World) (p a c : Nat) (lv : Value) (s : AS) (who kind at_ want put seen left : Int) (fk : Nat) (caps : Array Value) (D : Nat → Prop) (J : World → Prop) (h : IsA B w a c lv s) (hp : IsP w p a who true) (hB : B ≤ w.heap.size) (hlen : s.log.length ≤ 1000000) (hat : 0 ≤ at_) (hat2 : at_ < s.cells.length)
    (hseen : s.cells.getD at_.toNat 0 = seen) (hD : ∀ k, D k → k ≠ a ∧ k ≠ c ∧ k ≠ p ∧ lv.ownBlock ≠ some k)
    (eg : ∀ args w, (callFunc fk args).run Try.prog w = .ok (.enter fk args) w)
    (hf : ∀ w1, Fr (fun k => k = a ∨ k = p) w w1 → Calls Try.prog fk (#[.int .u64 seen] ++ caps) w1 fun e w2 => e = .returned (.int .u64 left) ∧ Fr D w1 w2 ∧ J w2)
    (hJ : ∀ w2 w3, J w2 → Fr (fun k => k = a ∨ k = c ∨ lv.ownBlock = some k) w2 w3 → J w3) :
    Calls Try.prog 65 #[.pointer (some ⟨p, 0, none⟩), .int .i64 kind, .int .i64 at_, .int .u64 want, .int .u64 put, .func (.func fk) #[] caps] w fun e w' => e = .returned (.int .u64 seen) ∧
      ∃ lv', IsA B w' a c lv' (s.done ⟨who, kind, at_, want, put, seen, left⟩) ∧ IsP w' p a who false ∧ J w' ∧ Fr (fun k => k = a ∨ k = p ∨ k = c ∨ D k ∨ lv.ownBlock = some k) w w' ∧ (lv'.ownBlock = lv.ownBlock ∨ ∀ k, lv'.ownBlock = some k → w.heap.size ≤ k) := by
  have HM := IsA.mid h hp at_ left D
  obtain ⟨c0, f0⟩ := blk_cell h.blk 0 (v := .slice (some ⟨c, 0, none⟩) s.cells.length s.cells.length) rfl
  obtain ⟨p0, q0⟩ := blk_cell hp 0 (v := .pointer (some ⟨a, 0, none⟩)) rfl
  obtain ⟨p2, q2⟩ := blk_cell hp 2 (v := .bool true) rfl
  have hc2 : s.cells.map (Value.int .u64) |>.toArray[at_.toNat]? = some (.int .u64 seen) := by
    have : at_.toNat < s.cells.length := by omega
    rw [← hseen]
    simp [List.getD, this]
  obtain ⟨d0, e0⟩ := blk_cell h.cel at_.toNat (v := .int .u64 seen) hc2
  have hi := inside B w a c lv s at_ h
  have hhas : s.has at_ = true := decide_eq_true ⟨hat, hat2⟩
  rw [hhas] at hi
  have n1 := h.ac
  have n2 := h.ap hp
  have n3 := h.cp hp
  have hs := h.small
  have hA := blk_far h.blk ⟨p, 2, none⟩ n2 (.bool false)
  have hC := blk_far h.cel ⟨p, 2, none⟩ n3 (.bool false)
  have hP := blk_set hp 2 (.bool false)
  have F1 : Fr (fun k => k = a ∨ k = p) w (w.setCell ⟨p, 2, none⟩ (.bool false)) := (Fr.refl _ w).setCell _ _ (.inl (.inr rfl))
  replace hf := hf _ F1
  have hat' := hat
  have hat2' := hat2
  replace hat : decide (0 ≤ at_) = true := decide_eq_true hat
  replace hat2 : decide (at_ < (s.cells.length : Int)) = true := decide_eq_true hat2
  have hla := h.la
  have hlc := h.lc
  have hlp := h.lp hp
  clear h hp hhas F1
  have W1 : ∃ w1, w1 = w.setCell ⟨p, 2, none⟩ (.bool false) := ⟨_, rfl⟩
  obtain ⟨w1, hw1⟩ := W1
  rw [← hw1] at hf hA hC hP
  go_enter Try.func65, Try.ntmps65
  go_wp2_with (first | (go_at_call 53; refine hi.mono ?_; rintro e w' ⟨rfl, rfl⟩) | (rw [← hw1]; refine hf.mono ?_; rintro e w2 ⟨rfl, F2, j2⟩; have jr := hJ _ _ j2 (((Fr.refl _ w2).setCell ⟨c, at_.toNat, none⟩ (.int .u64 left) (.inl (.inr (.inl rfl)))).setCell ⟨a, 3, none⟩ (.int .i64 (wrap64 (s.count + 1))) (.inl (.inl rfl))); clear j2; have A2 := F2.blk hA (fun z => (hD a z).1 rfl); have C2 := F2.blk hC (fun z => (hD c z).2.1 rfl); have P2 := F2.blk hP (fun z => (hD p z).2.2.1 rfl); rw [hw1] at F2; replace HM := HM w2 hD F2; clear F2 hw1 hf hA hC hP hi c0 f0 p0 q0 p2 q2 d0 e0; obtain ⟨a0, g0⟩ := blk_cell A2 0 (v := .slice (some ⟨c, 0, none⟩) s.cells.length s.cells.length) rfl; obtain ⟨a2, g2⟩ := blk_cell A2 2 (v := .bool s.keep) rfl; obtain ⟨a3, g3⟩ := blk_cell A2 3 (v := .int .i64 s.count) rfl; obtain ⟨p0, q0⟩ := blk_cell P2 0 (v := .pointer (some ⟨a, 0, none⟩)) rfl; obtain ⟨d0, e0⟩ := blk_cell C2 at_.toNat (v := .int .u64 seen) hc2; clear A2 C2 P2; (obtain ⟨wr, hwr⟩ : ∃ wr, wr = (w2.setCell ⟨c, at_.toNat, none⟩ (.int .u64 left)).setCell ⟨a, 3, none⟩ (.int .i64 (wrap64 (s.count + 1))) := ⟨_, rfl⟩); rw [← hwr] at HM jr))
  · have hk : s.keep = true := by first | assumption | simp_all
    rw [← hwr]
    obtain ⟨⟨mA, mC, mL, mS⟩, mP, mF⟩ := HM
    obtain ⟨b1, v1⟩ := blk_cell mA 1 (v := lv) rfl
    obtain ⟨b5, v5⟩ := blk_cell mP 0 (v := .pointer (some ⟨a, 0, none⟩)) rfl
    obtain ⟨b6, v6⟩ := blk_cell mP 1 (v := .int .i64 who) rfl
    obtain ⟨i0, hi0, hz0, hz1, hz2⟩ := info_parts infoAcc
    have hBr : B ≤ wr.heap.size := Nat.le_trans hB mF.size
    have lA := blk_lt mA
    have lC := blk_lt mC
    have lP := blk_lt mP
    clear a0 g0 a2 g2 a3 g3 p0 q0 d0 e0 hwr
    refine Rg.Upto.start (fun w' => (w'.cell? ⟨p, 0, none⟩ = some (.pointer (some ⟨a, 0, none⟩)) ∧ w'.cell? ⟨p, 1, none⟩ = some (.int .i64 who)) ∧ w'.cell? ⟨a, 1, none⟩ = some lv) 26 (by kernel_rfl) ⟨⟨b5, b6⟩, b1⟩ (fun HS => ?_)
    refine Rg.Upto.take (i := 0) (v := ?_) rfl (by kernel_rfl) (by kernel_rfl) (by kernel_rfl) (by kernel_rfl) (fun _ _ _ h => h) (by rfl) (fun w5 hS5 => ?_) HS ?_
    rotate_left
    · obtain ⟨⟨s1, s2⟩, s3⟩ := hS5
      go_simp
      try rfl
    try simp only [Act.put, List.setIfInBounds_toArray, List.set_cons_zero, List.set_cons_succ]
    refine Rg.Upto.take (i := 1) (v := ?_) rfl (by kernel_rfl) (by kernel_rfl) (by kernel_rfl) (by kernel_rfl) (fun _ _ _ h => h) (by rfl) (fun w5 hS5 => ?_) HS ?_
    rotate_left
    · obtain ⟨⟨s1, s2⟩, s3⟩ := hS5
      go_simp
      try rfl
    try simp only [Act.put, List.setIfInBounds_toArray, List.set_cons_zero, List.set_cons_succ]
    refine Rg.Upto.take (i := 2) (v := ?_) rfl (by kernel_rfl) (by kernel_rfl) (by kernel_rfl) (by kernel_rfl) (fun _ _ _ h => h) (by rfl) (fun w5 hS5 => ?_) HS ?_
    rotate_left
    · obtain ⟨⟨s1, s2⟩, s3⟩ := hS5
      go_simp
      try rfl
    try simp only [Act.put, List.setIfInBounds_toArray, List.set_cons_zero, List.set_cons_succ]
    refine Rg.Upto.take (i := 3) (v := ?_) rfl (by kernel_rfl) (by kernel_rfl) (by kernel_rfl) (by kernel_rfl) (fun _ _ _ h => h) (by rfl) (fun w5 hS5 => ?_) HS ?_
    rotate_left
    · obtain ⟨⟨s1, s2⟩, s3⟩ := hS5
      go_simp
      try rfl
    try simp only [Act.put, List.setIfInBounds_toArray, List.set_cons_zero, List.set_cons_succ]
    refine Rg.Upto.take (i := 4) (v := ?_) rfl (by kernel_rfl) (by kernel_rfl) (by kernel_rfl) (by kernel_rfl) (fun _ _ _ h => h) (by rfl) (fun w5 hS5 => ?_) HS ?_
    rotate_left
    · obtain ⟨⟨s1, s2⟩, s3⟩ := hS5
      go_simp
      try rfl
    try simp only [Act.put, List.setIfInBounds_toArray, List.set_cons_zero, List.set_cons_succ]
    refine Rg.Upto.take (i := 5) (v := ?_) rfl (by kernel_rfl) (by kernel_rfl) (by kernel_rfl) (by kernel_rfl) (fun _ _ _ h => h) (by rfl) (fun w5 hS5 => ?_) HS ?_
    rotate_left
    · obtain ⟨⟨s1, s2⟩, s3⟩ := hS5
      go_simp
      try rfl
    try simp only [Act.put, List.setIfInBounds_toArray, List.set_cons_zero, List.set_cons_succ]
    refine Rg.Upto.take (i := 6) (v := ?_) rfl (by kernel_rfl) (by kernel_rfl) (by kernel_rfl) (by kernel_rfl) (fun _ _ _ h => h) (by rfl) (fun w5 hS5 => ?_) HS ?_
    rotate_left
    · obtain ⟨⟨s1, s2⟩, s3⟩ := hS5
      go_simp
      try rfl
    try simp only [Act.put, List.setIfInBounds_toArray, List.set_cons_zero, List.set_cons_succ]
    refine Rg.Upto.take (i := 7) (v := ?_) rfl (by kernel_rfl) (by kernel_rfl) (by kernel_rfl) (by kernel_rfl) (fun _ _ _ h => h) (by rfl) (fun w5 hS5 => ?_) HS ?_
    rotate_left
    · obtain ⟨⟨s1, s2⟩, s3⟩ := hS5
      go_simp
      try rfl
    try simp only [Act.put, List.setIfInBounds_toArray, List.set_cons_zero, List.set_cons_succ]
    refine Rg.Upto.take (i := 8) (v := ?_) rfl (by kernel_rfl) (by kernel_rfl) (by kernel_rfl) (by kernel_rfl) (fun _ _ _ h => h) (by rfl) (fun w5 hS5 => ?_) HS ?_
    rotate_left
    · obtain ⟨⟨s1, s2⟩, s3⟩ := hS5
      go_simp
      try rfl
    try simp only [Act.put, List.setIfInBounds_toArray, List.set_cons_zero, List.set_cons_succ]
    refine Rg.Upto.take (i := 9) (v := ?_) rfl (by kernel_rfl) (by kernel_rfl) (by kernel_rfl) (by kernel_rfl) (fun _ _ _ h => h) (by rfl) (fun w5 hS5 => ?_) HS ?_
    rotate_left
    · obtain ⟨⟨s1, s2⟩, s3⟩ := hS5
      go_simp
      try rfl
    try simp only [Act.put, List.setIfInBounds_toArray, List.set_cons_zero, List.set_cons_succ]
    refine Rg.Upto.take (i := 10) (v := ?_) rfl (by kernel_rfl) (by kernel_rfl) (by kernel_rfl) (by kernel_rfl) (fun _ _ _ h => h) (by rfl) (fun w5 hS5 => ?_) HS ?_
    rotate_left
    · obtain ⟨⟨s1, s2⟩, s3⟩ := hS5
      go_simp
      try rfl
    try simp only [Act.put, List.setIfInBounds_toArray, List.set_cons_zero, List.set_cons_succ]
    refine Rg.Upto.take (i := 11) (v := ?_) rfl (by kernel_rfl) (by kernel_rfl) (by kernel_rfl) (by kernel_rfl) (fun _ _ _ h => h) (by rfl) (fun w5 hS5 => ?_) HS ?_
    rotate_left
    · obtain ⟨⟨s1, s2⟩, s3⟩ := hS5
      go_simp
      try rfl
    try simp only [Act.put, List.setIfInBounds_toArray, List.set_cons_zero, List.set_cons_succ]
    refine Rg.Upto.take (i := 12) (v := ?_) rfl (by kernel_rfl) (by kernel_rfl) (by kernel_rfl) (by kernel_rfl) (fun _ _ _ h => h) (by rfl) (fun w5 hS5 => ?_) HS ?_
    rotate_left
    · obtain ⟨⟨s1, s2⟩, s3⟩ := hS5
      go_simp
      try rfl
    try simp only [Act.put, List.setIfInBounds_toArray, List.set_cons_zero, List.set_cons_succ]
    refine Rg.Upto.take (i := 13) (v := ?_) rfl (by kernel_rfl) (by kernel_rfl) (by kernel_rfl) (by kernel_rfl) (fun _ _ _ h => h) (by rfl) (fun w5 hS5 => ?_) HS ?_
    rotate_left
    · obtain ⟨⟨s1, s2⟩, s3⟩ := hS5
      go_simp
      try rfl
    try simp only [Act.put, List.setIfInBounds_toArray, List.set_cons_zero, List.set_cons_succ]
    refine Rg.Upto.take (i := 14) (v := ?_) rfl (by kernel_rfl) (by kernel_rfl) (by kernel_rfl) (by kernel_rfl) (fun _ _ _ h => h) (by rfl) (fun w5 hS5 => ?_) HS ?_
    rotate_left
    · obtain ⟨⟨s1, s2⟩, s3⟩ := hS5
      go_simp
      try rfl
    try simp only [Act.put, List.setIfInBounds_toArray, List.set_cons_zero, List.set_cons_succ]
    refine Rg.Upto.take (i := 15) (v := ?_) rfl (by kernel_rfl) (by kernel_rfl) (by kernel_rfl) (by kernel_rfl) (fun _ _ _ h => h) (by rfl) (fun w5 hS5 => ?_) HS ?_
    rotate_left
    · obtain ⟨⟨s1, s2⟩, s3⟩ := hS5
      go_simp
      try rfl
    try simp only [Act.put, List.setIfInBounds_toArray, List.set_cons_zero, List.set_cons_succ]
    refine Rg.Upto.take (i := 16) (v := ?_) rfl (by kernel_rfl) (by kernel_rfl) (by kernel_rfl) (by kernel_rfl) (fun _ _ _ h => h) (by rfl) (fun w5 hS5 => ?_) HS ?_
    rotate_left
    · obtain ⟨⟨s1, s2⟩, s3⟩ := hS5
      go_simp
      try rfl
    try simp only [Act.put, List.setIfInBounds_toArray, List.set_cons_zero, List.set_cons_succ]
    refine Rg.Upto.take (i := 17) (v := ?_) rfl (by kernel_rfl) (by kernel_rfl) (by kernel_rfl) (by kernel_rfl) (fun _ _ _ h => h) (by rfl) (fun w5 hS5 => ?_) HS ?_
    rotate_left
    · obtain ⟨⟨s1, s2⟩, s3⟩ := hS5
      go_simp
      try rfl
    try simp only [Act.put, List.setIfInBounds_toArray, List.set_cons_zero, List.set_cons_succ]
    refine Rg.Upto.take (i := 18) (v := ?_) rfl (by kernel_rfl) (by kernel_rfl) (by kernel_rfl) (by kernel_rfl) (fun _ _ _ h => h) (by rfl) (fun w5 hS5 => ?_) HS ?_
    rotate_left
    · obtain ⟨⟨s1, s2⟩, s3⟩ := hS5
      go_simp
      try rfl
    try simp only [Act.put, List.setIfInBounds_toArray, List.set_cons_zero, List.set_cons_succ]
    refine Rg.Upto.take (i := 19) (v := ?_) rfl (by kernel_rfl) (by kernel_rfl) (by kernel_rfl) (by kernel_rfl) (fun _ _ _ h => h) (by rfl) (fun w5 hS5 => ?_) HS ?_
    rotate_left
    · obtain ⟨⟨s1, s2⟩, s3⟩ := hS5
      go_simp
      try rfl
    try simp only [Act.put, List.setIfInBounds_toArray, List.set_cons_zero, List.set_cons_succ]
    refine Rg.Upto.take (i := 20) (v := ?_) rfl (by kernel_rfl) (by kernel_rfl) (by kernel_rfl) (by kernel_rfl) (fun _ _ _ h => h) (by rfl) (fun w5 hS5 => ?_) HS ?_
    rotate_left
    · obtain ⟨⟨s1, s2⟩, s3⟩ := hS5
      go_simp
      try rfl
    try simp only [Act.put, List.setIfInBounds_toArray, List.set_cons_zero, List.set_cons_succ]
    refine Rg.Upto.take (i := 21) (v := ?_) rfl (by kernel_rfl) (by kernel_rfl) (by kernel_rfl) (by kernel_rfl) (fun _ _ _ h => h) (by rfl) (fun w5 hS5 => ?_) HS ?_
    rotate_left
    · obtain ⟨⟨s1, s2⟩, s3⟩ := hS5
      go_simp
      try rfl
    try simp only [Act.put, List.setIfInBounds_toArray, List.set_cons_zero, List.set_cons_succ]
    refine Rg.Upto.one (i := 22) rfl (by kernel_rfl) (by rfl) (fun K hK => ?_)
    go_simp
    refine hK.out _ _ ⟨⟨(World.cell?_alloc_lt wr _ _ lP).trans b5, (World.cell?_alloc_lt wr _ _ lP).trans b6⟩, (World.cell?_alloc_lt wr _ _ lA).trans b1⟩ ?_
    clear hK K
    try simp only [Act.put, List.setIfInBounds_toArray, List.set_cons_zero, List.set_cons_succ]
    refine Rg.Upto.one (i := 23) rfl (by kernel_rfl) (by rfl) (fun K hK => ?_)
    refine wp_append_lies _ (.tmp 97) (.tmp 109) 72 rfl B 83 i0 _ 7 56 Try.underlying72 hi0 hz0 hz1 hz2 rfl (by omega) lv s.log.length (s.log.flatMap Acc.cells) rfl ((mL.alloc _).drew) ⟨wr.heap.size, 0, none⟩ 1 1 (Acc.cells ⟨who, kind, at_, want, put, seen, left⟩) rfl rfl
      (World.news_of_block (cs := #[.int .i64 who, .int .i64 kind, .int .i64 at_, .int .u64 want, .int .u64 put, .int .u64 seen, .int .u64 left]) (t := 83) (fr := (0, 0)) (blk_new wr _)) (by simp [Value.oneCell', Acc.cells]) (by omega) (by unfold maxLen; omega) (by omega) (by show B ≤ (wr.alloc _).heap.size; simp; omega) (wr.heap.size + 1) (by show (wr.alloc _).heap.size = _; simp) ?_
    intro gg cap w4 own4 grow4 at4 lt4
    have e0 : Fr (fun k => lv.ownBlock = some k) wr w4 := ((Fr.refl _ wr).alloc _).drew.grown grow4 (fun k hk => .inl hk)
    have fA := e0.blk mA hla
    have fC := e0.blk mC (fun z => hlc z)
    have fP := e0.blk mP hlp
    obtain ⟨x1, y1⟩ := blk_cell fA 1 (v := lv) rfl
    obtain ⟨x5, y5⟩ := blk_cell fP 0 (v := .pointer (some ⟨a, 0, none⟩)) rfl
    obtain ⟨x6, y6⟩ := blk_cell fP 1 (v := .int .i64 who) rfl
    refine hK.out _ _ ⟨⟨x5, x6⟩, x1⟩ ?_
    clear hK K
    try simp only [Act.put, List.setIfInBounds_toArray, List.set_cons_zero, List.set_cons_succ]
    refine Rg.Upto.one (i := 24) rfl (by kernel_rfl) (by rfl) (fun K hK => ?_)
    go_simp
    refine hK.out _ _ ⟨⟨x5, x6⟩, x1⟩ ?_
    clear hK K
    try simp only [Act.put, List.setIfInBounds_toArray, List.set_cons_zero, List.set_cons_succ]
    refine Rg.Upto.one (i := 25) rfl (by kernel_rfl) (by rfl) (fun K hK => ?_)
    go_simp
    refine hK.out _ _ ⟨⟨x5, x6⟩, x1⟩ ?_
    clear hK K
    try simp only [Act.put, List.setIfInBounds_toArray, List.set_cons_zero, List.set_cons_succ]
    refine Rg.Upto.last rfl (by kernel_rfl) (by kernel_rfl) (by rfl) (fun K hK => ?_)
    go_simp
    refine hK.out _ _ ?_
    clear hK K
    go_wp2
    go_ret
    refine ⟨rfl, .slice (some ⟨gg, 0, none⟩) (s.log.length + 1) cap, ⟨?_, ?_, ?_, ?_⟩, ?_, ?_, ?_, ?_⟩
    · have := blk_set fA 1 (.slice (some ⟨gg, 0, none⟩) (s.log.length + 1) cap)
      simpa [AS.done] using this
    · have := blk_far fC ⟨a, 1, none⟩ (Ne.symm n1) (.slice (some ⟨gg, 0, none⟩) (s.log.length + 1) cap)
      simpa [AS.done] using this
    · have := own_far own4 ⟨a, 1, none⟩ (.slice (some ⟨gg, 0, none⟩) (s.log.length + 1) cap) (own_ne own4 fA (by decide))
      simpa [AS.done, hk] using this
    · simpa [AS.done] using mS
    · exact blk_far fP ⟨a, 1, none⟩ (Ne.symm n2) _
    · exact hJ _ _ jr ((e0.mono (fun k _ hk => .inr (.inr hk))).setCell _ _ (.inl (.inl rfl)))
    · exact ((mF.mono (fun k _ hk => by rcases hk with h | h | h | h <;> simp [h])).then e0 (fun k _ hk => .inr (.inr (.inr (.inr hk))))).setCell _ _ (.inl (.inl rfl))
    · rcases at4 with h | h
      · left; rw [h]; rfl
      · right
        intro k hk
        have e : gg = k := by simpa [Value.ownBlock] using hk
        have := mF.size
        omega
  · have hk : s.keep = false := by first | assumption | simp_all
    rw [← hwr]
    go_ret
    refine ⟨rfl, lv, ?_, HM.2.1, jr, HM.2.2.mono (fun k _ hk => by rcases hk with h | h | h | h <;> simp [h]), .inl rfl⟩
    have := HM.1
    unfold AS.done
    rw [hk] at this ⊢
    exact this
end Go.Proofs.Ytdcikbhfoplkmaa.Ar
/- The six methods that make an access. -/
namespace Go.Proofs.Ytdcikbhfoplkmaa.Ar
open Go Go.RowKit Go.Proofs.Ytdcikbhfoplkmaa.Hp
set_option linter.unusedVariables false
set_option linter.unusedSimpArgs false

/-- What the cell holds behind an access. -/
def leftOf (kind seen want put : Int) : Int :=
  if kind = 1 then seen else if kind = 4 then (if seen = want then put else seen) else if kind = 5 then bits BinOp.or IntKind.u64 seen put else if kind = 6 then bits BinOp.and IntKind.u64 seen put else put

/-- A call through a port: the state behind it, and what it tells. -/
def AS.acc (s : AS) (g : Bool) (who kind at_ want put : Int) : AS × Int :=
  if g = true ∧ s.has at_ = true then (s.done ⟨who, kind, at_, want, put, s.cells.getD at_.toNat 0, leftOf kind (s.cells.getD at_.toNat 0) want put⟩, s.cells.getD at_.toNat 0) else (s.fault, 0)

set_option maxHeartbeats 2000000 in
theorem accessAll (B : Nat) (w : World) (p a c : Nat) (lv : Value) (s : AS) (who kind at_ want put : Int) (g : Bool) (fk : Nat) (caps : Array Value) (D : Nat → Prop) (J : Bool → World → Prop) (h : IsA B w a c lv s) (hp : IsP w p a who g) (hB : B ≤ w.heap.size) (hlen : s.log.length ≤ 1000000)
    (hD : ∀ k, D k → k ≠ a ∧ k ≠ c ∧ k ≠ p ∧ lv.ownBlock ≠ some k)
    (eg : ∀ args w, (callFunc fk args).run Try.prog w = .ok (.enter fk args) w)
    (hf : ∀ w1 seen, Fr (fun k => k = a ∨ k = p) w w1 → seen = s.cells.getD at_.toNat 0 → Calls Try.prog fk (#[.int .u64 seen] ++ caps) w1 fun e w2 => e = .returned (.int .u64 (leftOf kind seen want put)) ∧ Fr D w1 w2 ∧ J true w2)
    (hJ0 : ∀ w1, Fr (fun k => k = a ∨ k = p) w w1 → J false w1)
    (hJ : ∀ w2 w3, J true w2 → Fr (fun k => k = a ∨ k = c ∨ lv.ownBlock = some k) w2 w3 → J true w3) :
    Calls Try.prog 65 #[.pointer (some ⟨p, 0, none⟩), .int .i64 kind, .int .i64 at_, .int .u64 want, .int .u64 put, .func (.func fk) #[] caps] w fun e w' => e = .returned (.int .u64 (s.acc g who kind at_ want put).2) ∧
      ∃ lv', IsA B w' a c lv' (s.acc g who kind at_ want put).1 ∧ IsP w' p a who false ∧ J (decide (g = true ∧ s.has at_ = true)) w' ∧ Fr (fun k => k = a ∨ k = p ∨ k = c ∨ D k ∨ lv.ownBlock = some k) w w' ∧ (lv'.ownBlock = lv.ownBlock ∨ ∀ k, lv'.ownBlock = some k → w.heap.size ≤ k) := by
  unfold AS.acc
  by_cases hc : g = true ∧ s.has at_ = true
  · rw [if_pos hc, decide_eq_true hc]
    obtain ⟨rfl, hh⟩ := hc
    have hh2 := of_decide_eq_true hh
    refine (access B w p a c lv s who kind at_ want put _ _ fk caps D (J true) h hp hB hlen hh2.1 hh2.2 rfl hD eg ?_ hJ).mono fun e w' hw => hw
    intro w1 F1
    exact hf w1 _ F1 rfl
  · rw [if_neg hc, decide_eq_false hc]
    refine (access_no B w p a c lv s who kind at_ want put g (.func (.func fk) #[] caps) h hp (fun hg => by
      cases hh : s.has at_ with
      | false => rfl
      | true => exact absurd ⟨hg, hh⟩ hc)).mono ?_
    rintro e w' ⟨rfl, hA, hP, hF⟩
    exact ⟨rfl, lv, hA, hP, hJ0 _ hF, hF.mono (fun k _ hk => by rcases hk with h | h <;> simp [h]), .inl rfl⟩

/-- The world behind a call through a port. -/
def Post (B : Nat) (w w' : World) (p a c : Nat) (who : Int) (lv : Value) (s' : AS) : Prop :=
  ∃ lv', IsA B w' a c lv' s' ∧ IsP w' p a who false ∧ Fr (fun k => k = a ∨ k = p ∨ k = c ∨ lv.ownBlock = some k) w w' ∧ (lv'.ownBlock = lv.ownBlock ∨ ∀ k, lv'.ownBlock = some k → w.heap.size ≤ k)
theorem egLoad : ∀ args w, (callFunc 66 args).run Try.prog w = .ok (.enter 66 args) w := fun args w => rfl
theorem egStore : ∀ args w, (callFunc 67 args).run Try.prog w = .ok (.enter 67 args) w := fun args w => rfl
set_option maxHeartbeats 4000000 in
theorem mLoad (B : Nat) (w : World) (p a c : Nat) (lv : Value) (s : AS) (who at_ : Int) (g : Bool) (h : IsA B w a c lv s) (hp : IsP w p a who g) (hB : B ≤ w.heap.size) (hlen : s.log.length ≤ 1000000) :
    Calls Try.prog 51 #[.pointer (some ⟨p, 0, none⟩), .int .i64 at_] w fun e w' => e = .returned (.int .u64 (s.acc g who 1 at_ 0 0).2) ∧ Post B w w' p a c who lv (s.acc g who 1 at_ 0 0).1 := by
  have h1 := h
  have hp1 := hp
  have hacc := accessAll B w p a c lv s who 1 at_ 0 0 g 66 #[] (fun _ => False) (fun _ _ => True) h1 hp1 hB hlen (fun _ => False.elim) egLoad ?hf (fun _ _ => trivial) (fun _ _ _ _ => trivial)
  case hf =>
    intro w1 seen F1 hse
    clear hse
    show Calls _ _ #[.int .u64 seen] _ _
    clear hp1 h1 h hp
    go_enter Try.func66, Try.ntmps66
    go_wp2
    go_ret
    exact ⟨rfl, Fr.refl _ _, trivial⟩
  clear h1 hp1
  go_enter Try.func51, Try.ntmps51
  go_wp2_with (first | (go_at_call 65; refine hacc.mono ?_; rintro e w' ⟨rfl, lv', gA, gP, -, gF, gL⟩))
  go_ret
  exact ⟨rfl, lv', gA, gP, gF.mono (fun k _ hk => by rcases hk with h | h | h | h | h <;> simp_all), gL⟩

set_option maxHeartbeats 4000000 in
theorem mStore (B : Nat) (w : World) (p a c : Nat) (lv : Value) (s : AS) (who at_ v : Int) (g : Bool) (h : IsA B w a c lv s) (hp : IsP w p a who g) (hB : B ≤ w.heap.size) (hlen : s.log.length ≤ 1000000) :
    Calls Try.prog 52 #[.pointer (some ⟨p, 0, none⟩), .int .i64 at_, .int .u64 v] w fun e w' => e = .returned (.tuple #[]) ∧ Post B w w' p a c who lv (s.acc g who 2 at_ 0 v).1 := by
  have F0 : Fr (fun _ => False) w (w.alloc (.cells #[.int .u64 v] 24)) := (Fr.refl _ w).alloc _
  have hb := blk_new w (.cells #[.int .u64 v] 24)
  have h1 := h.fr F0 id id (fun _ _ => id)
  have hp1 := hp.fr F0 id
  have ln := F0.size
  have lA := blk_lt h.blk
  have lC := blk_lt h.cel
  have lP := blk_lt hp
  have hacc := accessAll B (w.alloc (.cells #[.int .u64 v] 24)) p a c lv s who 2 at_ 0 v g 67 #[.pointer (some ⟨w.heap.size, 0, none⟩)] (fun _ => False) (fun _ _ => True) h1 hp1 (Nat.le_trans hB ln) hlen (fun _ => False.elim) egStore ?hf (fun _ _ => trivial) (fun _ _ _ _ => trivial)
  case hf =>
    intro w1 seen F1 hse
    clear hse
    obtain ⟨c0, _⟩ := blk_cell (F1.blk hb (fun z => by omega)) 0 (v := .int .u64 v) rfl
    show Calls _ _ #[.int .u64 seen, .pointer (some ⟨w.heap.size, 0, none⟩)] _ _
    clear hp1 h1 h hp
    go_enter Try.func67, Try.ntmps67
    go_wp2
    go_ret
    exact ⟨rfl, Fr.refl _ _, trivial⟩
  clear h1 hp1
  go_enter Try.func52, Try.ntmps52
  go_wp2_with (first | (go_at_call 65; refine hacc.mono ?_; rintro e w' ⟨rfl, lv', gA, gP, -, gF, gL⟩))
  go_end0
  exact ⟨rfl, lv', gA, gP, (F0.mono (fun _ _ => False.elim)).then gF (fun k _ hk => by rcases hk with h | h | h | h | h <;> simp_all), gL.imp_right (fun hl k hk => Nat.le_trans ln (hl k hk))⟩

end Go.Proofs.Ytdcikbhfoplkmaa.Ar
/- The other methods. -/
namespace Go.Proofs.Ytdcikbhfoplkmaa.Ar
open Go Go.RowKit Go.Proofs.Ytdcikbhfoplkmaa.Hp
set_option linter.unusedVariables false
set_option linter.unusedSimpArgs false

theorem grant (w : World) (p a : Nat) (who : Int) (g : Bool) (hp : IsP w p a who g) :
    Calls Try.prog 43 #[.pointer (some ⟨p, 0, none⟩)] w fun e w' => e = .returned (.tuple #[]) ∧ IsP w' p a who true ∧ Fr (fun k => k = p) w w' := by
  obtain ⟨p2, q2⟩ := blk_cell hp 2 (v := .bool g) rfl
  have hE := blk_set hp 2 (.bool true)
  clear hp
  go_enter Try.func43, Try.ntmps43
  go_wp2
  go_end0
  exact ⟨rfl, by simpa [IsP] using hE, (Fr.refl _ w).setCell _ _ (.inl rfl)⟩
theorem open_ (w : World) (p a : Nat) (who : Int) (g : Bool) (hp : IsP w p a who g) :
    Calls Try.prog 50 #[.pointer (some ⟨p, 0, none⟩)] w fun e w' => e = .returned (.bool g) ∧ w' = w := by
  obtain ⟨p2, q2⟩ := blk_cell hp 2 (v := .bool g) rfl
  clear hp
  go_enter Try.func50, Try.ntmps50
  go_wp2
  go_ret
  exact ⟨rfl, rfl⟩
theorem who_ (w : World) (p a : Nat) (who : Int) (g : Bool) (hp : IsP w p a who g) :
    Calls Try.prog 58 #[.pointer (some ⟨p, 0, none⟩)] w fun e w' => e = .returned (.int .i64 who) ∧ w' = w := by
  obtain ⟨p2, q2⟩ := blk_cell hp 1 (v := .int .i64 who) rfl
  clear hp
  go_enter Try.func58, Try.ntmps58
  go_wp2
  go_ret
  exact ⟨rfl, rfl⟩
theorem mCount (B : Nat) (w : World) (a c : Nat) (lv : Value) (s : AS) (h : IsA B w a c lv s) :
    Calls Try.prog 41 #[.pointer (some ⟨a, 0, none⟩)] w fun e w' => e = .returned (.int .i64 s.count) ∧ w' = w := by
  obtain ⟨c0, f0⟩ := blk_cell h.blk 3 (v := .int .i64 s.count) rfl
  clear h
  go_enter Try.func41, Try.ntmps41
  go_wp2
  go_ret
  exact ⟨rfl, rfl⟩
theorem mFaults (B : Nat) (w : World) (a c : Nat) (lv : Value) (s : AS) (h : IsA B w a c lv s) :
    Calls Try.prog 34 #[.pointer (some ⟨a, 0, none⟩)] w fun e w' => e = .returned (.int .i64 s.faults) ∧ w' = w := by
  obtain ⟨c0, f0⟩ := blk_cell h.blk 4 (v := .int .i64 s.faults) rfl
  clear h
  go_enter Try.func34, Try.ntmps34
  go_wp2
  go_ret
  exact ⟨rfl, rfl⟩
set_option maxHeartbeats 1000000 in
theorem mPoke (B : Nat) (w : World) (a c : Nat) (lv : Value) (s : AS) (at_ v : Int) (h : IsA B w a c lv s) (hh : s.has at_ = true) :
    Calls Try.prog 31 #[.pointer (some ⟨a, 0, none⟩), .int .i64 at_, .int .u64 v] w fun e w' => e = .returned (.int .i64 0) ∧ IsA B w' a c lv { s with cells := s.cells.set at_.toNat v } ∧ Fr (fun k => k = c) w w' := by
  have hat := (of_decide_eq_true hh).1
  have hat2 := (of_decide_eq_true hh).2
  obtain ⟨c0, f0⟩ := blk_cell h.blk 0 (v := .slice (some ⟨c, 0, none⟩) s.cells.length s.cells.length) rfl
  obtain ⟨d0, e0⟩ := blk_cell h.cel at_.toNat (v := .int .u64 (s.cells.getD at_.toNat 0)) (by
    have : at_.toNat < s.cells.length := by omega
    simp [List.getD, this])
  have hi := inside B w a c lv s at_ h
  rw [hh] at hi
  have E1 := blk_far h.blk ⟨c, at_.toNat, none⟩ h.ac (.int .u64 v)
  have E2 := blk_set h.cel at_.toNat (.int .u64 v)
  have E3 := own_far h.log ⟨c, at_.toNat, none⟩ (.int .u64 v) h.lc
  have E4 := h.small
  have hat_ := hat
  have hat2_ := hat2
  replace hat : decide (0 ≤ at_) = true := decide_eq_true hat
  replace hat2 : decide (at_ < (s.cells.length : Int)) = true := decide_eq_true hat2
  clear h hh
  go_enter Try.func31, Try.ntmps31
  go_wp2_with (first | (go_at_call 53; refine hi.mono ?_; rintro e w' ⟨rfl, rfl⟩))
  go_ret
  exact ⟨rfl, ⟨by simpa using E1, by rw [E2]; simp [List.map_set], E3, by simpa using E4⟩, (Fr.refl _ _).setCell _ _ (.inl rfl)⟩
set_option maxHeartbeats 1000000 in
theorem mPeek (B : Nat) (w : World) (a c : Nat) (lv : Value) (s : AS) (at_ : Int) (h : IsA B w a c lv s) (hh : s.has at_ = true) :
    Calls Try.prog 46 #[.pointer (some ⟨a, 0, none⟩), .int .i64 at_] w fun e w' => e = .returned (.tuple #[.int .u64 (s.cells.getD at_.toNat 0), .int .i64 0]) ∧ ∃ n, w' = w.drewN n := by
  have hat := (of_decide_eq_true hh).1
  have hat2 := (of_decide_eq_true hh).2
  obtain ⟨c0, f0⟩ := blk_cell h.blk 0 (v := .slice (some ⟨c, 0, none⟩) s.cells.length s.cells.length) rfl
  obtain ⟨x, hx⟩ : ∃ x, x = s.cells.getD at_.toNat 0 := ⟨_, rfl⟩
  obtain ⟨d0, e0⟩ := blk_cell h.cel at_.toNat (v := .int .u64 x) (by
    have : at_.toNat < s.cells.length := by omega
    rw [hx]
    simp [List.getD, this])
  have hi := inside B w a c lv s at_ h
  rw [hh] at hi
  rw [← hx]
  have hat_ := hat
  have hat2_ := hat2
  replace hat : decide (0 ≤ at_) = true := decide_eq_true hat
  replace hat2 : decide (at_ < (s.cells.length : Int)) = true := decide_eq_true hat2
  clear h hh hx
  go_enter Try.func46, Try.ntmps46
  go_wp2_with (first | (go_at_call 53; refine hi.mono ?_; rintro e w' ⟨rfl, rfl⟩))
  go_ret2
  exact ⟨rfl, 0, rfl⟩
theorem mPeek_out (B : Nat) (w : World) (a c : Nat) (lv : Value) (s : AS) (at_ : Int) (h : IsA B w a c lv s) (hh : s.has at_ = false) :
    Calls Try.prog 46 #[.pointer (some ⟨a, 0, none⟩), .int .i64 at_] w fun e w' => e = .returned (.tuple #[.int .u64 0, .int .i64 5]) ∧ ∃ n, w' = w.drewN n := by
  have hi := inside B w a c lv s at_ h
  rw [hh] at hi
  clear h hh
  go_enter Try.func46, Try.ntmps46
  go_wp2_with (first | (go_at_call 53; refine hi.mono ?_; rintro e w' ⟨rfl, rfl⟩))
  go_ret2
  exact ⟨rfl, 0, rfl⟩
end Go.Proofs.Ytdcikbhfoplkmaa.Ar
/- Making an arena and a port; the image; nil ports. -/
namespace Go.Proofs.Ytdcikbhfoplkmaa.Ar
open Go Go.RowKit Go.Proofs.Ytdcikbhfoplkmaa.Hp
set_option linter.unusedVariables false
set_option linter.unusedSimpArgs false

theorem infoU : (Try.prog.info? 24).map (fun i => (i.zero, i.size, i.bytes)) = some (some (.int .u64 0), 1, 8) := by kernel_rfl
theorem own_full {B g n e : Nat} {w : World} {xs : List Value} (h : w.ownsRow B e 1 (.slice (some ⟨g, 0, none⟩) n n) n xs) : w.heap[g]? = some (.cells xs.toArray e (0, 0)) := by
  rcases h.2 with ⟨h2, _⟩ | ⟨g', cap, cur, h2, _, h4, _, _, h5, h6⟩
  · simp at h2
  · simp only [Value.slice.injEq, Option.some.injEq, Addr.mk.injEq, and_true, true_and] at h2
    obtain ⟨rfl, rfl⟩ := h2
    rw [List.take_of_length_le (by rw [Array.length_toList, h5]; exact Nat.le_refl _)] at h6
    rw [h4, ← h6]
set_option maxHeartbeats 2000000 in
theorem new_ (B : Nat) (w : World) (n : Nat) (keep : Bool) (h : 1 ≤ n) (h' : n ≤ 4096) :
    Calls Try.prog 23 #[.int .i64 n, .bool keep] w fun e w' => ∃ a c, e = .returned (.tuple #[.pointer (some ⟨a, 0, none⟩), .int .i64 0]) ∧ IsA B w' a c (.slice none 0 0) ⟨List.replicate n 0, [], keep, 0, 0⟩ ∧ Fr (fun _ => False) w w' ∧ w.heap.size ≤ a ∧ w.heap.size ≤ c := by
  have h1 := decide_eq_false (p := ((n : Int) < 1)) (by omega)
  have h2 := decide_eq_false (p := (4096 < (n : Int))) (by omega)
  obtain ⟨i0, hi0, hz0, hz1, hz2⟩ := info_parts infoU
  go_enter Try.func23, Try.ntmps23
  go_wp2_with (first | (at_make; refine wpList_make_full _ rfl _ _ 33 rfl w.heap.size 24 i0 (.int .u64 0) 1 Try.underlying33 hi0 hz0 hz1 _ _ _ _ n rfl rfl rfl rfl (by rw [hz2]; omega) (by unfold maxLen; omega) (Nat.le_refl _) ?_))
  intro w1 own1 grow1
  have cel1 := own_full own1
  go_wp2
  go_ret2
  have F1 : Fr (fun _ => False) w w1 := (Fr.refl _ w).grown grow1 (fun k hk => by cases hk)
  refine ⟨w1.heap.size, w.heap.size, by simp, ⟨?_, ?_, World.ownsRow_nil _ _ _ _, by simpa using h'⟩, F1.alloc _, F1.size, Nat.le_refl _⟩
  · rw [blk_new]
    simp
  · rw [blk_alloc cel1]
    rw [toList_madeCells_one]
    simp

set_option maxHeartbeats 2000000 in
theorem port (w : World) (a : Nat) (who : Int) (h : 0 ≤ who) (h' : who ≤ 15) :
    Calls Try.prog 30 #[.pointer (some ⟨a, 0, none⟩), .int .i64 who] w fun e w' => ∃ p, e = .returned (.tuple #[.pointer (some ⟨p, 0, none⟩), .int .i64 0]) ∧ IsP w' p a who false ∧ Fr (fun _ => False) w w' ∧ w.heap.size ≤ p := by
  have h1 := decide_eq_false (p := (who < 0)) (by omega)
  have h2 := decide_eq_false (p := (15 < who)) (by omega)
  go_enter Try.func30, Try.ntmps30
  go_wp2
  go_ret2
  exact ⟨w.heap.size, by simp, blk_new w _, (Fr.refl _ w).alloc _, Nat.le_refl _⟩
/-! A nil port. -/
end Go.Proofs.Ytdcikbhfoplkmaa.Ar
/- An arena and its ports together: what each call does to them. -/
namespace Go.Proofs.Ytdcikbhfoplkmaa.Ar
open Go Go.RowKit Go.Proofs.Ytdcikbhfoplkmaa.Hp
set_option linter.unusedVariables false
set_option linter.unusedSimpArgs false

/-- A block that a call through a port may turn. -/
def Touch (c : Nat) (w : World) (k : Nat) : Prop := k = c ∨ ∃ cs t f, w.heap[k]? = some (.cells cs t f) ∧ (t = 94 ∨ t = 109 ∨ t = 83)

/-- An arena a, its cells c, its ports. -/
structure Sys (B : Nat) (w : World) (a c : Nat) (s : AS) (ps : List (Nat × Int × Bool)) : Prop where
  ar : ∃ lv, IsA B w a c lv s
  base : B ≤ w.heap.size ∧ B ≤ a ∧ B ≤ c
  pt : ∀ x ∈ ps, IsP w x.1 a x.2.1 x.2.2 ∧ B ≤ x.1
  nd : (ps.map (·.1)).Nodup

theorem not_touch {c k : Nat} {w : World} {cs : Array Value} {t : TypeId} {f : Nat × Nat} (h : w.heap[k]? = some (.cells cs t f)) (hc : k ≠ c) (ht : t ≠ 94 ∧ t ≠ 109 ∧ t ≠ 83) : ¬ Touch c w k := by
  rintro (e | ⟨cs', t', f', h', h2⟩)
  · exact hc e
  · rw [h] at h'
    injection h' with h'
    injection h' with _ h' _
    subst h'
    rcases h2 with e | e | e
    · exact ht.1 e
    · exact ht.2.1 e
    · exact ht.2.2 e
theorem Sys.fr {B : Nat} {w w' : World} {a c : Nat} {s : AS} {ps : List (Nat × Int × Bool)} {S : Nat → Prop} (h : Sys B w a c s ps) (hF : Fr S w w') (hS : ∀ k, k < w.heap.size → S k → ¬ Touch c w k) : Sys B w' a c s ps := by
  obtain ⟨⟨lv, hA⟩, hb, hp, hn⟩ := h
  refine ⟨⟨lv, hA.fr hF ?_ ?_ ?_⟩, ⟨Nat.le_trans hb.1 hF.size, hb.2⟩, fun x hx => ⟨(hp x hx).1.fr hF ?_, (hp x hx).2⟩, hn⟩
  · exact fun z => hS a (blk_lt hA.blk) z (.inr ⟨_, _, _, hA.blk, .inl rfl⟩)
  · exact fun z => hS c (blk_lt hA.cel) z (.inl rfl)
  · intro k hk z
    have hl := (hA.log.lt k hk)
    rcases hA.log.2 with ⟨rfl, _⟩ | ⟨g, cap, cur, rfl, _, hg, _⟩
    · simp [Value.ownBlock] at hk
    · simp only [Value.ownBlock, Option.some.injEq] at hk
      subst hk
      exact hS g (blk_lt hg) z (.inr ⟨_, _, _, hg, .inr (.inr rfl)⟩)
  · exact fun z => hS x.1 (blk_lt (hp x hx).1) z (.inr ⟨_, _, _, (hp x hx).1, .inr (.inl rfl)⟩)
theorem Sys.still {B : Nat} {w w' : World} {a c : Nat} {s : AS} {ps : List (Nat × Int × Bool)} (h : Sys B w a c s ps) (hF : Fr (fun _ => False) w w') : Sys B w' a c s ps := h.fr hF (fun _ _ => False.elim)
theorem Sys.alloc {B : Nat} {w : World} {a c : Nat} {s : AS} {ps : List (Nat × Int × Bool)} (h : Sys B w a c s ps) (o : Obj) : Sys B (w.alloc o) a c s ps := h.still ((Fr.refl _ w).alloc o)
theorem Sys.drewN {B : Nat} {w : World} {a c : Nat} {s : AS} {ps : List (Nat × Int × Bool)} (h : Sys B w a c s ps) (n : Nat) : Sys B (w.drewN n) a c s ps := h.still ((Fr.refl _ w).drewN n)
theorem Sys.drew {B : Nat} {w : World} {a c : Nat} {s : AS} {ps : List (Nat × Int × Bool)} (h : Sys B w a c s ps) : Sys B w.drew a c s ps := h.still ((Fr.refl _ w).drew)
/-- A store into a block that is none of theirs. -/
theorem Sys.other {B : Nat} {w : World} {a c k : Nat} {s : AS} {ps : List (Nat × Int × Bool)} (h : Sys B w a c s ps) (hk : ¬ Touch c w k) (j : Nat) (u : Value) : Sys B (w.setCell ⟨k, j, none⟩ u) a c s ps :=
  h.fr (S := fun i => i = k) ((Fr.refl _ w).setCell _ _ (.inl rfl)) (fun i _ e => by subst e; exact hk)
theorem Sys.below {B : Nat} {w w' : World} {a c : Nat} {s : AS} {ps : List (Nat × Int × Bool)} (h : Sys B w a c s ps) (hb : Below w.heap.size w w') : Sys B w' a c s ps :=
  h.still ⟨hb.os, hb.tape, hb.output, hb.size, fun k hk _ => hb.block k hk⟩
theorem Sys.lt {B : Nat} {w : World} {a c : Nat} {s : AS} {ps : List (Nat × Int × Bool)} (h : Sys B w a c s ps) : a < w.heap.size ∧ c < w.heap.size := by
  obtain ⟨⟨lv, hA⟩, _⟩ := h
  exact ⟨blk_lt hA.blk, blk_lt hA.cel⟩
theorem Sys.mono {B B' : Nat} {w : World} {a c : Nat} {s : AS} {ps : List (Nat × Int × Bool)} (h : Sys B w a c s ps) (hB : B' ≤ B) : Sys B' w a c s ps := by
  obtain ⟨⟨lv, hA⟩, hb, hp, hn⟩ := h
  refine ⟨⟨lv, hA.blk, hA.cel, ⟨hA.log.1, ?_⟩, hA.small⟩, by omega, fun x hx => ⟨(hp x hx).1, by have := (hp x hx).2; omega⟩, hn⟩
  rcases hA.log.2 with h2 | ⟨g, cap, cur, h1, h2, h3⟩
  · exact .inl h2
  · exact .inr ⟨g, cap, cur, h1, by omega, h3⟩

/-- What a call says of the world behind it. -/
structure Did (B : Nat) (w w' : World) (a c : Nat) (s : AS) (ps : List (Nat × Int × Bool)) : Prop where
  sys : Sys B w' a c s ps
  bel : Below B w w'
  fr : Fr (Touch c w) w w'

theorem set_split {α : Type} : ∀ {l : List α} {i : Nat} {x : α} (y : α), l[i]? = some x → ∃ l1 l2, l = l1 ++ x :: l2 ∧ l.set i y = l1 ++ y :: l2 ∧ l1.length = i
  | [], i, x, y, h => by simp at h
  | z :: l, 0, x, y, h => by simp at h; subst h; exact ⟨[], l, rfl, rfl, rfl⟩
  | z :: l, i + 1, x, y, h => by
    obtain ⟨l1, l2, h1, h2, h3⟩ := set_split y (show l[i]? = some x by simpa using h)
    exact ⟨z :: l1, l2, by rw [h1]; rfl, by rw [List.set_cons_succ, h2]; rfl, by simp [h3]⟩

theorem Sys.did {B : Nat} {w w' : World} {a c p : Nat} {s s' : AS} {who : Int} {g : Bool} {lv : Value} {ps : List (Nat × Int × Bool)} {i : Nat} (h : Sys B w a c s ps) (hA : IsA B w a c lv s) (hi : ps[i]? = some (p, who, g)) (hw : Post B w w' p a c who lv s') : Did B w w' a c s' (ps.set i (p, who, false)) := by
  obtain ⟨lv', hA', hP', hF, hl⟩ := hw
  obtain ⟨_, hb, hp, hn⟩ := h
  have hm : (p, who, g) ∈ ps := List.mem_of_getElem? hi
  have hT : Fr (Touch c w) w w' := hF.mono fun k hk e => by
    rcases e with e | e | e | e
    · subst e; exact .inr ⟨_, _, _, hA.blk, .inl rfl⟩
    · subst e; exact .inr ⟨_, _, _, (hp _ hm).1, .inr (.inl rfl)⟩
    · exact .inl e
    · rcases hA.log.2 with ⟨rfl, _⟩ | ⟨g, cap, cur, rfl, _, hg, _⟩
      · simp [Value.ownBlock] at e
      · simp only [Value.ownBlock, Option.some.injEq] at e
        subst e
        exact .inr ⟨_, _, _, hg, .inr (.inr rfl)⟩
  refine ⟨⟨⟨lv', hA'⟩, ⟨Nat.le_trans hb.1 hF.size, hb.2⟩, ?_, ?_⟩, ?_, hT⟩
  · obtain ⟨l1, l2, e1, e2, _⟩ := set_split (p, who, false) hi
    rw [e2]
    rw [e1] at hn hp
    simp only [List.map_append, List.map_cons, List.nodup_append, List.nodup_cons] at hn
    intro x hx
    have hx' : x = (p, who, false) ∨ (x ∈ l1 ++ (p, who, g) :: l2 ∧ x.1 ≠ p) := by
      rcases List.mem_append.1 hx with h1 | h1
      · refine .inr ⟨List.mem_append.2 (.inl h1), ?_⟩
        rintro rfl
        exact hn.2.2 x.1 (List.mem_map.2 ⟨x, h1, rfl⟩) x.1 (by simp) rfl
      · rcases List.mem_cons.1 h1 with h2 | h2
        · exact .inl h2
        · refine .inr ⟨List.mem_append.2 (.inr (List.mem_cons_of_mem _ h2)), ?_⟩
          rintro rfl
          exact hn.2.1.1 (List.mem_map.2 ⟨x, h2, rfl⟩)
    rcases hx' with rfl | ⟨hx', hne⟩
    · exact ⟨hP', (hp (p, who, g) (by simp)).2⟩
    · have := hp x hx'
      refine ⟨this.1.fr hF ?_, this.2⟩
      rintro (e | e | e | e)
      · exact hA.ap this.1 e.symm
      · exact hne e
      · exact hA.cp this.1 e.symm
      · exact hA.lp this.1 e
  · rw [List.map_set]
    obtain ⟨l1, l2, e1, e2, _⟩ := set_split p (show (ps.map (·.1))[i]? = some p by rw [List.getElem?_map, hi]; rfl)
    rw [e2, ← e1]
    exact hn
  · refine ⟨hF.os, hF.tape, hF.output, hF.size, fun k hk => hF.block k (by omega) ?_⟩
    have := (hp _ hm).2
    rintro (e | e | e | e)
    · omega
    · simp only at this; omega
    · omega
    · have := (hA.log.lt k e).1; omega

theorem Sys.load {B : Nat} {w : World} {a c p : Nat} {s : AS} {who : Int} {g : Bool} {ps : List (Nat × Int × Bool)} (h : Sys B w a c s ps) (i : Nat) (at_ : Int) (hi : ps[i]? = some (p, who, g)) (hl : s.log.length ≤ 1000000) :
    Calls Try.prog 51 #[.pointer (some ⟨p, 0, none⟩), .int .i64 at_] w fun e w' => e = .returned (.int .u64 (s.acc g who 1 at_ 0 0).2) ∧ Did B w w' a c (s.acc g who 1 at_ 0 0).1 (ps.set i (p, who, false)) := by
  obtain ⟨lv, hA⟩ := h.ar
  exact (mLoad B w p a c lv s who at_ g hA (h.pt _ (List.mem_of_getElem? hi)).1 h.base.1 hl).mono fun e w' hw => ⟨hw.1, h.did hA hi hw.2⟩
theorem Sys.store {B : Nat} {w : World} {a c p : Nat} {s : AS} {who : Int} {g : Bool} {ps : List (Nat × Int × Bool)} (h : Sys B w a c s ps) (i : Nat) (at_ v : Int) (hi : ps[i]? = some (p, who, g)) (hl : s.log.length ≤ 1000000) :
    Calls Try.prog 52 #[.pointer (some ⟨p, 0, none⟩), .int .i64 at_, .int .u64 v] w fun e w' => e = .returned (.tuple #[]) ∧ Did B w w' a c (s.acc g who 2 at_ 0 v).1 (ps.set i (p, who, false)) := by
  obtain ⟨lv, hA⟩ := h.ar
  exact (mStore B w p a c lv s who at_ v g hA (h.pt _ (List.mem_of_getElem? hi)).1 h.base.1 hl).mono fun e w' hw => ⟨hw.1, h.did hA hi hw.2⟩
/-- A port's grant, anew. -/
theorem Sys.granted {B : Nat} {w w' : World} {a c p : Nat} {s : AS} {who : Int} {g : Bool} {ps : List (Nat × Int × Bool)} {i : Nat} (h : Sys B w a c s ps) (hi : ps[i]? = some (p, who, g)) (hP : IsP w' p a who true) (hF : Fr (fun k => k = p) w w') : Did B w w' a c s (ps.set i (p, who, true)) := by
  obtain ⟨⟨lv, hA⟩, hb, hp, hn⟩ := h
  have hm : (p, who, g) ∈ ps := List.mem_of_getElem? hi
  have hPp := (hp _ hm).1
  refine ⟨⟨⟨lv, hA.fr hF (hA.ap hPp) (hA.cp hPp) (fun k hk e => hA.lp hPp (hk.trans (congrArg some e)))⟩, ⟨Nat.le_trans hb.1 hF.size, hb.2⟩, ?_, ?_⟩, ?_, hF.mono fun k _ e => by subst e; exact .inr ⟨_, _, _, hPp, .inr (.inl rfl)⟩⟩
  · obtain ⟨l1, l2, e1, e2, _⟩ := set_split (p, who, true) hi
    rw [e2]
    rw [e1] at hn hp
    simp only [List.map_append, List.map_cons, List.nodup_append, List.nodup_cons] at hn
    intro x hx
    have hx' : x = (p, who, true) ∨ (x ∈ l1 ++ (p, who, g) :: l2 ∧ x.1 ≠ p) := by
      rcases List.mem_append.1 hx with h1 | h1
      · refine .inr ⟨List.mem_append.2 (.inl h1), ?_⟩
        rintro rfl
        exact hn.2.2 x.1 (List.mem_map.2 ⟨x, h1, rfl⟩) x.1 (by simp) rfl
      · rcases List.mem_cons.1 h1 with h2 | h2
        · exact .inl h2
        · refine .inr ⟨List.mem_append.2 (.inr (List.mem_cons_of_mem _ h2)), ?_⟩
          rintro rfl
          exact hn.2.1.1 (List.mem_map.2 ⟨x, h2, rfl⟩)
    rcases hx' with rfl | ⟨hx', hne⟩
    · exact ⟨hP, (hp (p, who, g) (by simp)).2⟩
    · have := hp x hx'
      exact ⟨this.1.fr hF hne, this.2⟩
  · rw [List.map_set]
    obtain ⟨l1, l2, e1, e2, _⟩ := set_split p (show (ps.map (·.1))[i]? = some p by rw [List.getElem?_map, hi]; rfl)
    rw [e2, ← e1]
    exact hn
  · refine ⟨hF.os, hF.tape, hF.output, hF.size, fun k hk => hF.block k (by omega) ?_⟩
    have := (hp _ hm).2
    rintro rfl
    simp only at this; omega
theorem Sys.grant {B : Nat} {w : World} {a c p : Nat} {s : AS} {who : Int} {g : Bool} {ps : List (Nat × Int × Bool)} (h : Sys B w a c s ps) (i : Nat) (hi : ps[i]? = some (p, who, g)) :
    Calls Try.prog 43 #[.pointer (some ⟨p, 0, none⟩)] w fun e w' => e = .returned (.tuple #[]) ∧ Did B w w' a c s (ps.set i (p, who, true)) :=
  (Ar.grant w p a who g (h.pt _ (List.mem_of_getElem? hi)).1).mono fun e w' hw => ⟨hw.1, h.granted hi hw.2.1 hw.2.2⟩
theorem Sys.open_ {B : Nat} {w : World} {a c p : Nat} {s : AS} {who : Int} {g : Bool} {ps : List (Nat × Int × Bool)} (h : Sys B w a c s ps) (i : Nat) (hi : ps[i]? = some (p, who, g)) :
    Calls Try.prog 50 #[.pointer (some ⟨p, 0, none⟩)] w fun e w' => e = .returned (.bool g) ∧ w' = w := Ar.open_ w p a who g (h.pt _ (List.mem_of_getElem? hi)).1
theorem Sys.who {B : Nat} {w : World} {a c p : Nat} {s : AS} {who : Int} {g : Bool} {ps : List (Nat × Int × Bool)} (h : Sys B w a c s ps) (i : Nat) (hi : ps[i]? = some (p, who, g)) :
    Calls Try.prog 58 #[.pointer (some ⟨p, 0, none⟩)] w fun e w' => e = .returned (.int .i64 who) ∧ w' = w := Ar.who_ w p a who g (h.pt _ (List.mem_of_getElem? hi)).1
theorem Sys.count {B : Nat} {w : World} {a c : Nat} {s : AS} {ps : List (Nat × Int × Bool)} (h : Sys B w a c s ps) :
    Calls Try.prog 41 #[.pointer (some ⟨a, 0, none⟩)] w fun e w' => e = .returned (.int .i64 s.count) ∧ w' = w := by
  obtain ⟨lv, hA⟩ := h.ar
  exact mCount B w a c lv s hA
theorem Sys.faults {B : Nat} {w : World} {a c : Nat} {s : AS} {ps : List (Nat × Int × Bool)} (h : Sys B w a c s ps) :
    Calls Try.prog 34 #[.pointer (some ⟨a, 0, none⟩)] w fun e w' => e = .returned (.int .i64 s.faults) ∧ w' = w := by
  obtain ⟨lv, hA⟩ := h.ar
  exact mFaults B w a c lv s hA
theorem Sys.peek {B : Nat} {w : World} {a c : Nat} {s : AS} {ps : List (Nat × Int × Bool)} (h : Sys B w a c s ps) (at_ : Int) :
    Calls Try.prog 46 #[.pointer (some ⟨a, 0, none⟩), .int .i64 at_] w fun e w' => e = .returned (.tuple #[.int .u64 (if s.has at_ = true then s.cells.getD at_.toNat 0 else 0), .int .i64 (if s.has at_ = true then 0 else 5)]) ∧ ∃ n, w' = w.drewN n := by
  obtain ⟨lv, hA⟩ := h.ar
  by_cases hh : s.has at_ = true
  · rw [if_pos hh, if_pos hh]
    exact mPeek B w a c lv s at_ hA hh
  · rw [if_neg hh, if_neg hh]
    exact mPeek_out B w a c lv s at_ hA (by simpa using hh)
/-- A cell set ahead of a run. -/
def AS.poked (s : AS) (at_ v : Int) : AS := { s with cells := s.cells.set at_.toNat v }
theorem Sys.poke {B : Nat} {w : World} {a c : Nat} {s : AS} {ps : List (Nat × Int × Bool)} (h : Sys B w a c s ps) (at_ v : Int) (hh : s.has at_ = true) :
    Calls Try.prog 31 #[.pointer (some ⟨a, 0, none⟩), .int .i64 at_, .int .u64 v] w fun e w' => e = .returned (.int .i64 0) ∧ Did B w w' a c (s.poked at_ v) ps := by
  obtain ⟨lv, hA⟩ := h.ar
  refine (mPoke B w a c lv s at_ v hA hh).mono fun e w' hw => ⟨hw.1, ⟨⟨lv, hw.2.1⟩, ⟨Nat.le_trans h.base.1 hw.2.2.size, h.base.2⟩, fun x hx => ⟨(h.pt x hx).1.fr hw.2.2 (fun e => hA.cp (h.pt x hx).1 e.symm), (h.pt x hx).2⟩, h.nd⟩, ⟨hw.2.2.os, hw.2.2.tape, hw.2.2.output, hw.2.2.size, fun k hk => hw.2.2.block k (by have := h.base.1; omega) (fun e => by have := h.base.2.2; omega)⟩, hw.2.2.mono fun k _ e => .inl e⟩
theorem sys_new (B : Nat) (w : World) (n : Nat) (keep : Bool) (h : 1 ≤ n) (h' : n ≤ 4096) (hB : B ≤ w.heap.size) :
    Calls Try.prog 23 #[.int .i64 n, .bool keep] w fun e w' => ∃ a c, e = .returned (.tuple #[.pointer (some ⟨a, 0, none⟩), .int .i64 0]) ∧ Sys B w' a c ⟨List.replicate n 0, [], keep, 0, 0⟩ [] ∧ Below w.heap.size w w' ∧ w.heap.size ≤ a ∧ w.heap.size ≤ c := by
  refine (new_ B w n keep h h').mono ?_
  rintro e w' ⟨a, c, he, hA, hF, ha, hc⟩
  exact ⟨a, c, he, ⟨⟨_, hA⟩, ⟨Nat.le_trans hB hF.size, by omega, by omega⟩, fun x hx => (by cases hx), by simp⟩, ⟨hF.os, hF.tape, hF.output, hF.size, fun k hk => hF.block k hk id⟩, ha, hc⟩
theorem Sys.port {B : Nat} {w : World} {a c : Nat} {s : AS} {ps : List (Nat × Int × Bool)} (h : Sys B w a c s ps) (who : Int) (h0 : 0 ≤ who) (h1 : who ≤ 15) :
    Calls Try.prog 30 #[.pointer (some ⟨a, 0, none⟩), .int .i64 who] w fun e w' => ∃ p, e = .returned (.tuple #[.pointer (some ⟨p, 0, none⟩), .int .i64 0]) ∧ Sys B w' a c s (ps ++ [(p, who, false)]) ∧ Below w.heap.size w w' ∧ w.heap.size ≤ p := by
  refine (Ar.port w a who h0 h1).mono ?_
  rintro e w' ⟨p, he, hP, hF, hp⟩
  have h2 := h.still hF
  refine ⟨p, he, ⟨h2.ar, h2.base, fun x hx => ?_, ?_⟩, ⟨hF.os, hF.tape, hF.output, hF.size, fun k hk => hF.block k hk id⟩, hp⟩
  · rcases List.mem_append.1 hx with hx | hx
    · exact h2.pt x hx
    · rw [List.mem_singleton.1 hx]
      exact ⟨hP, by have := h.base.1; simp only; omega⟩
  · rw [List.map_append]
    refine List.nodup_append.2 ⟨h.nd, by simp, fun y hy z hz e => ?_⟩
    obtain ⟨x, hx, rfl⟩ := List.mem_map.1 hy
    have : z = p := by simpa using hz
    have h3 := blk_lt (h.pt x hx).1
    omega
end Go.Proofs.Ytdcikbhfoplkmaa.Ar

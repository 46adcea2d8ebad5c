/- What (*arena.Port).access does: a fault; an access that is made. -/
import Derived.Test.YtcnledehnefldaaArA
import Derived.Test.YtcnledehnefldaaRg
namespace Go.Proofs.Ytcnledehnefldaa.Ar
open Go Go.RowKit Go.Proofs.Ytcnledehnefldaa.Hp
set_option linter.unusedVariables false
set_option linter.unusedSimpArgs false

theorem infoAcc : (Try.prog.info? 75).map (fun i => (i.zero, i.size, i.bytes)) = some (some (.agg #[.int .i64 0, .int .i64 0, .int .i64 0, .int .u64 0, .int .u64 0, .int .u64 0, .int .u64 0]), 7, 56) := by kernel_rfl

/-- An access was made. -/
def AS.done (s : AS) (x : Acc) : AS := { cells := s.cells.set x.at_.toNat x.left, log := if s.keep = true then s.log ++ [x] else s.log, keep := s.keep, count := wrap64 (s.count + 1), faults := s.faults }
/-- A call that made none. -/
def AS.fault (s : AS) : AS := { s with faults := wrap64 (s.faults + 1) }

theorem own_far {B : Nat} {w : World} {e size n : Nat} {v : Value} {xs : List Value} (h : w.ownsRow B e size v n xs) (p : Addr) (u : Value) (hp : v.ownBlock ≠ some p.block) : (w.setCell p u).ownsRow B e size v n xs :=
  h.kept (row := some p.block) ⟨rfl, rfl, rfl, by simp [World.setCell], fun k _ hk => Below.heap_setCell w p u k (fun e => hk (by rw [e]))⟩ (.inr hp)
theorem own_fr {S : Nat → Prop} {B : Nat} {w w' : World} {e size n : Nat} {v : Value} {xs : List Value} (h : w.ownsRow B e size v n xs) (hf : Fr S w w') (hs : ∀ k, v.ownBlock = some k → ¬ S k) : w'.ownsRow B e size v n xs := by
  refine ⟨h.1, ?_⟩
  rcases h.2 with h2 | ⟨g, cap, cur, rfl, h3, h4, h5⟩
  · exact .inl h2
  · exact .inr ⟨g, cap, cur, rfl, h3, hf.blk h4 (hs g rfl), h5⟩
theorem own_ne {B : Nat} {w : World} {e size n t k : Nat} {v : Value} {xs : List Value} {cs : Array Value} {f : Nat × Nat} (h : w.ownsRow B e size v n xs) (hk : w.heap[k]? = some (.cells cs t f)) (ht : e ≠ t) : v.ownBlock ≠ some k := by
  rcases h.2 with ⟨rfl, _⟩ | ⟨g, cap, cur, rfl, _, hgg, _⟩
  · simp [Value.ownBlock]
  · simp only [Value.ownBlock]; intro e; injection e with e; exact blk_ne hgg hk ht e

theorem IsA.la {B : Nat} {w : World} {a c : Nat} {lv : Value} {s : AS} (h : IsA B w a c lv s) : lv.ownBlock ≠ some a := own_ne h.log h.blk (by decide)
theorem IsA.lc {B : Nat} {w : World} {a c : Nat} {lv : Value} {s : AS} (h : IsA B w a c lv s) : lv.ownBlock ≠ some c := own_ne h.log h.cel (by decide)
theorem IsA.lp {B : Nat} {w : World} {a c p : Nat} {lv : Value} {s : AS} {who : Int} {g : Bool} (h : IsA B w a c lv s) (hp : IsP w p a who g) : lv.ownBlock ≠ some p := own_ne h.log hp (by decide)
theorem IsA.fr {S : Nat → Prop} {B : Nat} {w w' : World} {a c : Nat} {lv : Value} {s : AS} (h : IsA B w a c lv s) (hf : Fr S w w') (ha : ¬ S a) (hc : ¬ S c) (hl : ∀ k, lv.ownBlock = some k → ¬ S k) : IsA B w' a c lv s :=
  ⟨hf.blk h.blk ha, hf.blk h.cel hc, own_fr h.log hf hl, h.small⟩
theorem IsP.fr {S : Nat → Prop} {w w' : World} {p a : Nat} {who : Int} {g : Bool} (h : IsP w p a who g) (hf : Fr S w w') (hp : ¬ S p) : IsP w' p a who g := hf.blk h hp

/-- The world behind a fault. -/
theorem IsA.faulted {B : Nat} {w : World} {a c p : Nat} {lv : Value} {s : AS} {who : Int} {g : Bool} (h : IsA B w a c lv s) (hp : IsP w p a who g) (v : Value) (hv : v = .bool false) (u : Value) (hu : u = .int .i64 (wrap64 (s.faults + 1))) :
    IsA B ((w.setCell ⟨p, 2, none⟩ v).setCell ⟨a, 4, none⟩ u) a c lv s.fault ∧ IsP ((w.setCell ⟨p, 2, none⟩ v).setCell ⟨a, 4, none⟩ u) p a who false ∧ Fr (fun k => k = a ∨ k = p) w ((w.setCell ⟨p, 2, none⟩ v).setCell ⟨a, 4, none⟩ u) := by
  have n1 := h.ac
  have n2 := h.ap hp
  have n3 := h.cp hp
  subst hv hu
  refine ⟨⟨?_, blk_far (blk_far h.cel _ n3 _) _ (Ne.symm n1) _, own_far (own_far h.log _ _ (h.lp hp)) _ _ h.la, h.small⟩, ?_, ((Fr.refl _ w).setCell _ _ (.inl (.inr rfl))).setCell _ _ (.inl (.inl rfl))⟩
  · have := blk_set (blk_far h.blk ⟨p, 2, none⟩ n2 (.bool false)) 4 (.int .i64 (wrap64 (s.faults + 1)))
    simpa [AS.fault] using this
  · have := blk_far (blk_set hp 2 (.bool false)) ⟨a, 4, none⟩ (Ne.symm n2) (.int .i64 (wrap64 (s.faults + 1)))
    simpa [IsP] using this

set_option maxHeartbeats 8000000 in
theorem access_no (B : Nat) (w : World) (p a c : Nat) (lv : Value) (s : AS) (who kind at_ want put : Int) (g : Bool) (fv : Value) (h : IsA B w a c lv s) (hp : IsP w p a who g) (hg : g = true → s.has at_ = false) :
    Calls Try.prog 75 #[.pointer (some ⟨p, 0, none⟩), .int .i64 kind, .int .i64 at_, .int .u64 want, .int .u64 put, fv] w fun e w' => e = .returned (.int .u64 0) ∧ IsA B w' a c lv s.fault ∧ IsP w' p a who false ∧ Fr (fun k => k = a ∨ k = p) w w' := by
  have HE := IsA.faulted h hp
  obtain ⟨c0, f0⟩ := blk_cell h.blk 0 (v := .slice (some ⟨c, 0, none⟩) s.cells.length s.cells.length) rfl
  obtain ⟨c4, f4⟩ := blk_cell h.blk 4 (v := .int .i64 s.faults) rfl
  obtain ⟨p0, q0⟩ := blk_cell hp 0 (v := .pointer (some ⟨a, 0, none⟩)) rfl
  obtain ⟨p2, q2⟩ := blk_cell hp 2 (v := .bool g) rfl
  have hi := inside B w a c lv s at_ h
  have n1 := h.ac
  have n2 := h.ap hp
  have n3 := h.cp hp
  clear h hp
  cases g with
  | false =>
    clear hg hi
    go_enter Try.func75, Try.ntmps75
    go_wp2
    go_ret
    exact ⟨rfl, HE _ rfl _ rfl⟩
  | true =>
    rw [hg rfl] at hi
    go_enter Try.func75, Try.ntmps75
    go_wp2_with (first | (go_at_call 57; refine hi.mono ?_; rintro e w' ⟨rfl, rfl⟩))
    go_ret
    exact ⟨rfl, HE _ rfl _ rfl⟩

/-- The world behind an access, ahead of its log. -/
theorem IsA.mid {B : Nat} {w : World} {a c p : Nat} {lv : Value} {s : AS} {who : Int} {g : Bool} (h : IsA B w a c lv s) (hp : IsP w p a who g) (at_ left : Int) (D : Nat → Prop) (w2 : World)
    (hD : ∀ k, D k → k ≠ a ∧ k ≠ c ∧ k ≠ p ∧ lv.ownBlock ≠ some k) (h2 : Fr D (w.setCell ⟨p, 2, none⟩ (.bool false)) w2) :
    IsA B ((w2.setCell ⟨c, at_.toNat, none⟩ (.int .u64 left)).setCell ⟨a, 3, none⟩ (.int .i64 (wrap64 (s.count + 1)))) a c lv { s with cells := s.cells.set at_.toNat left, count := wrap64 (s.count + 1) } ∧
    IsP ((w2.setCell ⟨c, at_.toNat, none⟩ (.int .u64 left)).setCell ⟨a, 3, none⟩ (.int .i64 (wrap64 (s.count + 1)))) p a who false ∧
    Fr (fun k => k = a ∨ k = p ∨ k = c ∨ D k) w ((w2.setCell ⟨c, at_.toNat, none⟩ (.int .u64 left)).setCell ⟨a, 3, none⟩ (.int .i64 (wrap64 (s.count + 1)))) := by
  have n1 := h.ac
  have n2 := h.ap hp
  have n3 := h.cp hp
  have h0 : Fr (fun k => k = a ∨ k = p ∨ k = c ∨ D k) w (w.setCell ⟨p, 2, none⟩ (.bool false)) := (Fr.refl _ w).setCell _ _ (.inl (.inr (.inl rfl)))
  have hA := h2.blk (blk_far h.blk ⟨p, 2, none⟩ n2 (.bool false)) (fun z => (hD a z).1 rfl)
  have hC := h2.blk (blk_far h.cel ⟨p, 2, none⟩ n3 (.bool false)) (fun z => (hD c z).2.1 rfl)
  have hP := h2.blk (blk_set hp 2 (.bool false)) (fun z => (hD p z).2.2.1 rfl)
  have hL := own_fr (own_far h.log ⟨p, 2, none⟩ (.bool false) (h.lp hp)) h2 (fun k hk z => (hD k z).2.2.2 hk)
  refine ⟨⟨?_, ?_, own_far (own_far hL _ _ h.lc) _ _ h.la, by simpa using h.small⟩, ?_, ((h0.then h2 (fun k _ hk => .inr (.inr (.inr hk)))).setCell _ _ (.inl (.inr (.inr (.inl rfl))))).setCell _ _ (.inl (.inl rfl))⟩
  · have := blk_set (blk_far hA ⟨c, at_.toNat, none⟩ n1 (.int .u64 left)) 3 (.int .i64 (wrap64 (s.count + 1)))
    simpa using this
  · have := blk_far (blk_set hC at_.toNat (.int .u64 left)) ⟨a, 3, none⟩ (Ne.symm n1) (.int .i64 (wrap64 (s.count + 1)))
    rw [this]
    simp [List.map_set]
  · have := blk_far (blk_far hP ⟨c, at_.toNat, none⟩ (Ne.symm n3) (.int .u64 left)) ⟨a, 3, none⟩ (Ne.symm n2) (.int .i64 (wrap64 (s.count + 1)))
    simpa [IsP] using this

set_option maxHeartbeats 8000000 in
theorem access (B : Nat) (w : World) (p a c : Nat) (lv : Value) (s : AS) (who kind at_ want put seen left : Int) (fk : Nat) (caps : Array Value) (D : Nat → Prop) (J : World → Prop) (h : IsA B w a c lv s) (hp : IsP w p a who true) (hB : B ≤ w.heap.size) (hlen : s.log.length ≤ 1000000) (hat : 0 ≤ at_) (hat2 : at_ < s.cells.length)
    (hseen : s.cells.getD at_.toNat 0 = seen) (hD : ∀ k, D k → k ≠ a ∧ k ≠ c ∧ k ≠ p ∧ lv.ownBlock ≠ some k)
    (eg : ∀ args w, (callFunc fk args).run Try.prog w = .ok (.enter fk args) w)
    (hf : ∀ w1, Fr (fun k => k = a ∨ k = p) w w1 → Calls Try.prog fk (#[.int .u64 seen] ++ caps) w1 fun e w2 => e = .returned (.int .u64 left) ∧ Fr D w1 w2 ∧ J w2)
    (hJ : ∀ w2 w3, J w2 → Fr (fun k => k = a ∨ k = c ∨ lv.ownBlock = some k) w2 w3 → J w3) :
    Calls Try.prog 75 #[.pointer (some ⟨p, 0, none⟩), .int .i64 kind, .int .i64 at_, .int .u64 want, .int .u64 put, .func (.func fk) #[] caps] w fun e w' => e = .returned (.int .u64 seen) ∧
      ∃ lv', IsA B w' a c lv' (s.done ⟨who, kind, at_, want, put, seen, left⟩) ∧ IsP w' p a who false ∧ J w' ∧ Fr (fun k => k = a ∨ k = p ∨ k = c ∨ D k ∨ lv.ownBlock = some k) w w' ∧ (lv'.ownBlock = lv.ownBlock ∨ ∀ k, lv'.ownBlock = some k → w.heap.size ≤ k) := by
  have HM := IsA.mid h hp at_ left D
  obtain ⟨c0, f0⟩ := blk_cell h.blk 0 (v := .slice (some ⟨c, 0, none⟩) s.cells.length s.cells.length) rfl
  obtain ⟨p0, q0⟩ := blk_cell hp 0 (v := .pointer (some ⟨a, 0, none⟩)) rfl
  obtain ⟨p2, q2⟩ := blk_cell hp 2 (v := .bool true) rfl
  have hc2 : s.cells.map (Value.int .u64) |>.toArray[at_.toNat]? = some (.int .u64 seen) := by
    have : at_.toNat < s.cells.length := by omega
    rw [← hseen]
    simp [List.getD, this]
  obtain ⟨d0, e0⟩ := blk_cell h.cel at_.toNat (v := .int .u64 seen) hc2
  have hi := inside B w a c lv s at_ h
  have hhas : s.has at_ = true := decide_eq_true ⟨hat, hat2⟩
  rw [hhas] at hi
  have n1 := h.ac
  have n2 := h.ap hp
  have n3 := h.cp hp
  have hs := h.small
  have hA := blk_far h.blk ⟨p, 2, none⟩ n2 (.bool false)
  have hC := blk_far h.cel ⟨p, 2, none⟩ n3 (.bool false)
  have hP := blk_set hp 2 (.bool false)
  have F1 : Fr (fun k => k = a ∨ k = p) w (w.setCell ⟨p, 2, none⟩ (.bool false)) := (Fr.refl _ w).setCell _ _ (.inl (.inr rfl))
  replace hf := hf _ F1
  have hat' := hat
  have hat2' := hat2
  replace hat : decide (0 ≤ at_) = true := decide_eq_true hat
  replace hat2 : decide (at_ < (s.cells.length : Int)) = true := decide_eq_true hat2
  have hla := h.la
  have hlc := h.lc
  have hlp := h.lp hp
  clear h hp hhas F1
  have W1 : ∃ w1, w1 = w.setCell ⟨p, 2, none⟩ (.bool false) := ⟨_, rfl⟩
  obtain ⟨w1, hw1⟩ := W1
  rw [← hw1] at hf hA hC hP
  go_enter Try.func75, Try.ntmps75
  go_wp2_with (first | (go_at_call 57; refine hi.mono ?_; rintro e w' ⟨rfl, rfl⟩) | (rw [← hw1]; refine hf.mono ?_; rintro e w2 ⟨rfl, F2, j2⟩; have jr := hJ _ _ j2 (((Fr.refl _ w2).setCell ⟨c, at_.toNat, none⟩ (.int .u64 left) (.inl (.inr (.inl rfl)))).setCell ⟨a, 3, none⟩ (.int .i64 (wrap64 (s.count + 1))) (.inl (.inl rfl))); clear j2; have A2 := F2.blk hA (fun z => (hD a z).1 rfl); have C2 := F2.blk hC (fun z => (hD c z).2.1 rfl); have P2 := F2.blk hP (fun z => (hD p z).2.2.1 rfl); rw [hw1] at F2; replace HM := HM w2 hD F2; clear F2 hw1 hf hA hC hP hi c0 f0 p0 q0 p2 q2 d0 e0; obtain ⟨a0, g0⟩ := blk_cell A2 0 (v := .slice (some ⟨c, 0, none⟩) s.cells.length s.cells.length) rfl; obtain ⟨a2, g2⟩ := blk_cell A2 2 (v := .bool s.keep) rfl; obtain ⟨a3, g3⟩ := blk_cell A2 3 (v := .int .i64 s.count) rfl; obtain ⟨p0, q0⟩ := blk_cell P2 0 (v := .pointer (some ⟨a, 0, none⟩)) rfl; obtain ⟨d0, e0⟩ := blk_cell C2 at_.toNat (v := .int .u64 seen) hc2; clear A2 C2 P2; (obtain ⟨wr, hwr⟩ : ∃ wr, wr = (w2.setCell ⟨c, at_.toNat, none⟩ (.int .u64 left)).setCell ⟨a, 3, none⟩ (.int .i64 (wrap64 (s.count + 1))) := ⟨_, rfl⟩); rw [← hwr] at HM jr))
  · have hk : s.keep = true := by first | assumption | simp_all
    rw [← hwr]
    obtain ⟨⟨mA, mC, mL, mS⟩, mP, mF⟩ := HM
    obtain ⟨b1, v1⟩ := blk_cell mA 1 (v := lv) rfl
    obtain ⟨b5, v5⟩ := blk_cell mP 0 (v := .pointer (some ⟨a, 0, none⟩)) rfl
    obtain ⟨b6, v6⟩ := blk_cell mP 1 (v := .int .i64 who) rfl
    obtain ⟨i0, hi0, hz0, hz1, hz2⟩ := info_parts infoAcc
    have hBr : B ≤ wr.heap.size := Nat.le_trans hB mF.size
    have lA := blk_lt mA
    have lC := blk_lt mC
    have lP := blk_lt mP
    clear a0 g0 a2 g2 a3 g3 p0 q0 d0 e0 hwr
    refine Rg.Upto.start (fun w' => (w'.cell? ⟨p, 0, none⟩ = some (.pointer (some ⟨a, 0, none⟩)) ∧ w'.cell? ⟨p, 1, none⟩ = some (.int .i64 who)) ∧ w'.cell? ⟨a, 1, none⟩ = some lv) 26 (by kernel_rfl) ⟨⟨b5, b6⟩, b1⟩ (fun HS => ?_)
    refine Rg.Upto.take (i := 0) (v := ?_) rfl (by kernel_rfl) (by kernel_rfl) (by kernel_rfl) (by kernel_rfl) (fun _ _ _ h => h) (by rfl) (fun w5 hS5 => ?_) HS ?_
    rotate_left
    · obtain ⟨⟨s1, s2⟩, s3⟩ := hS5
      go_simp
      try rfl
    try simp only [Act.put, List.setIfInBounds_toArray, List.set_cons_zero, List.set_cons_succ]
    refine Rg.Upto.take (i := 1) (v := ?_) rfl (by kernel_rfl) (by kernel_rfl) (by kernel_rfl) (by kernel_rfl) (fun _ _ _ h => h) (by rfl) (fun w5 hS5 => ?_) HS ?_
    rotate_left
    · obtain ⟨⟨s1, s2⟩, s3⟩ := hS5
      go_simp
      try rfl
    try simp only [Act.put, List.setIfInBounds_toArray, List.set_cons_zero, List.set_cons_succ]
    refine Rg.Upto.take (i := 2) (v := ?_) rfl (by kernel_rfl) (by kernel_rfl) (by kernel_rfl) (by kernel_rfl) (fun _ _ _ h => h) (by rfl) (fun w5 hS5 => ?_) HS ?_
    rotate_left
    · obtain ⟨⟨s1, s2⟩, s3⟩ := hS5
      go_simp
      try rfl
    try simp only [Act.put, List.setIfInBounds_toArray, List.set_cons_zero, List.set_cons_succ]
    refine Rg.Upto.take (i := 3) (v := ?_) rfl (by kernel_rfl) (by kernel_rfl) (by kernel_rfl) (by kernel_rfl) (fun _ _ _ h => h) (by rfl) (fun w5 hS5 => ?_) HS ?_
    rotate_left
    · obtain ⟨⟨s1, s2⟩, s3⟩ := hS5
      go_simp
      try rfl
    try simp only [Act.put, List.setIfInBounds_toArray, List.set_cons_zero, List.set_cons_succ]
    refine Rg.Upto.take (i := 4) (v := ?_) rfl (by kernel_rfl) (by kernel_rfl) (by kernel_rfl) (by kernel_rfl) (fun _ _ _ h => h) (by rfl) (fun w5 hS5 => ?_) HS ?_
    rotate_left
    · obtain ⟨⟨s1, s2⟩, s3⟩ := hS5
      go_simp
      try rfl
    try simp only [Act.put, List.setIfInBounds_toArray, List.set_cons_zero, List.set_cons_succ]
    refine Rg.Upto.take (i := 5) (v := ?_) rfl (by kernel_rfl) (by kernel_rfl) (by kernel_rfl) (by kernel_rfl) (fun _ _ _ h => h) (by rfl) (fun w5 hS5 => ?_) HS ?_
    rotate_left
    · obtain ⟨⟨s1, s2⟩, s3⟩ := hS5
      go_simp
      try rfl
    try simp only [Act.put, List.setIfInBounds_toArray, List.set_cons_zero, List.set_cons_succ]
    refine Rg.Upto.take (i := 6) (v := ?_) rfl (by kernel_rfl) (by kernel_rfl) (by kernel_rfl) (by kernel_rfl) (fun _ _ _ h => h) (by rfl) (fun w5 hS5 => ?_) HS ?_
    rotate_left
    · obtain ⟨⟨s1, s2⟩, s3⟩ := hS5
      go_simp
      try rfl
    try simp only [Act.put, List.setIfInBounds_toArray, List.set_cons_zero, List.set_cons_succ]
    refine Rg.Upto.take (i := 7) (v := ?_) rfl (by kernel_rfl) (by kernel_rfl) (by kernel_rfl) (by kernel_rfl) (fun _ _ _ h => h) (by rfl) (fun w5 hS5 => ?_) HS ?_
    rotate_left
    · obtain ⟨⟨s1, s2⟩, s3⟩ := hS5
      go_simp
      try rfl
    try simp only [Act.put, List.setIfInBounds_toArray, List.set_cons_zero, List.set_cons_succ]
    refine Rg.Upto.take (i := 8) (v := ?_) rfl (by kernel_rfl) (by kernel_rfl) (by kernel_rfl) (by kernel_rfl) (fun _ _ _ h => h) (by rfl) (fun w5 hS5 => ?_) HS ?_
    rotate_left
    · obtain ⟨⟨s1, s2⟩, s3⟩ := hS5
      go_simp
      try rfl
    try simp only [Act.put, List.setIfInBounds_toArray, List.set_cons_zero, List.set_cons_succ]
    refine Rg.Upto.take (i := 9) (v := ?_) rfl (by kernel_rfl) (by kernel_rfl) (by kernel_rfl) (by kernel_rfl) (fun _ _ _ h => h) (by rfl) (fun w5 hS5 => ?_) HS ?_
    rotate_left
    · obtain ⟨⟨s1, s2⟩, s3⟩ := hS5
      go_simp
      try rfl
    try simp only [Act.put, List.setIfInBounds_toArray, List.set_cons_zero, List.set_cons_succ]
    refine Rg.Upto.take (i := 10) (v := ?_) rfl (by kernel_rfl) (by kernel_rfl) (by kernel_rfl) (by kernel_rfl) (fun _ _ _ h => h) (by rfl) (fun w5 hS5 => ?_) HS ?_
    rotate_left
    · obtain ⟨⟨s1, s2⟩, s3⟩ := hS5
      go_simp
      try rfl
    try simp only [Act.put, List.setIfInBounds_toArray, List.set_cons_zero, List.set_cons_succ]
    refine Rg.Upto.take (i := 11) (v := ?_) rfl (by kernel_rfl) (by kernel_rfl) (by kernel_rfl) (by kernel_rfl) (fun _ _ _ h => h) (by rfl) (fun w5 hS5 => ?_) HS ?_
    rotate_left
    · obtain ⟨⟨s1, s2⟩, s3⟩ := hS5
      go_simp
      try rfl
    try simp only [Act.put, List.setIfInBounds_toArray, List.set_cons_zero, List.set_cons_succ]
    refine Rg.Upto.take (i := 12) (v := ?_) rfl (by kernel_rfl) (by kernel_rfl) (by kernel_rfl) (by kernel_rfl) (fun _ _ _ h => h) (by rfl) (fun w5 hS5 => ?_) HS ?_
    rotate_left
    · obtain ⟨⟨s1, s2⟩, s3⟩ := hS5
      go_simp
      try rfl
    try simp only [Act.put, List.setIfInBounds_toArray, List.set_cons_zero, List.set_cons_succ]
    refine Rg.Upto.take (i := 13) (v := ?_) rfl (by kernel_rfl) (by kernel_rfl) (by kernel_rfl) (by kernel_rfl) (fun _ _ _ h => h) (by rfl) (fun w5 hS5 => ?_) HS ?_
    rotate_left
    · obtain ⟨⟨s1, s2⟩, s3⟩ := hS5
      go_simp
      try rfl
    try simp only [Act.put, List.setIfInBounds_toArray, List.set_cons_zero, List.set_cons_succ]
    refine Rg.Upto.take (i := 14) (v := ?_) rfl (by kernel_rfl) (by kernel_rfl) (by kernel_rfl) (by kernel_rfl) (fun _ _ _ h => h) (by rfl) (fun w5 hS5 => ?_) HS ?_
    rotate_left
    · obtain ⟨⟨s1, s2⟩, s3⟩ := hS5
      go_simp
      try rfl
    try simp only [Act.put, List.setIfInBounds_toArray, List.set_cons_zero, List.set_cons_succ]
    refine Rg.Upto.take (i := 15) (v := ?_) rfl (by kernel_rfl) (by kernel_rfl) (by kernel_rfl) (by kernel_rfl) (fun _ _ _ h => h) (by rfl) (fun w5 hS5 => ?_) HS ?_
    rotate_left
    · obtain ⟨⟨s1, s2⟩, s3⟩ := hS5
      go_simp
      try rfl
    try simp only [Act.put, List.setIfInBounds_toArray, List.set_cons_zero, List.set_cons_succ]
    refine Rg.Upto.take (i := 16) (v := ?_) rfl (by kernel_rfl) (by kernel_rfl) (by kernel_rfl) (by kernel_rfl) (fun _ _ _ h => h) (by rfl) (fun w5 hS5 => ?_) HS ?_
    rotate_left
    · obtain ⟨⟨s1, s2⟩, s3⟩ := hS5
      go_simp
      try rfl
    try simp only [Act.put, List.setIfInBounds_toArray, List.set_cons_zero, List.set_cons_succ]
    refine Rg.Upto.take (i := 17) (v := ?_) rfl (by kernel_rfl) (by kernel_rfl) (by kernel_rfl) (by kernel_rfl) (fun _ _ _ h => h) (by rfl) (fun w5 hS5 => ?_) HS ?_
    rotate_left
    · obtain ⟨⟨s1, s2⟩, s3⟩ := hS5
      go_simp
      try rfl
    try simp only [Act.put, List.setIfInBounds_toArray, List.set_cons_zero, List.set_cons_succ]
    refine Rg.Upto.take (i := 18) (v := ?_) rfl (by kernel_rfl) (by kernel_rfl) (by kernel_rfl) (by kernel_rfl) (fun _ _ _ h => h) (by rfl) (fun w5 hS5 => ?_) HS ?_
    rotate_left
    · obtain ⟨⟨s1, s2⟩, s3⟩ := hS5
      go_simp
      try rfl
    try simp only [Act.put, List.setIfInBounds_toArray, List.set_cons_zero, List.set_cons_succ]
    refine Rg.Upto.take (i := 19) (v := ?_) rfl (by kernel_rfl) (by kernel_rfl) (by kernel_rfl) (by kernel_rfl) (fun _ _ _ h => h) (by rfl) (fun w5 hS5 => ?_) HS ?_
    rotate_left
    · obtain ⟨⟨s1, s2⟩, s3⟩ := hS5
      go_simp
      try rfl
    try simp only [Act.put, List.setIfInBounds_toArray, List.set_cons_zero, List.set_cons_succ]
    refine Rg.Upto.take (i := 20) (v := ?_) rfl (by kernel_rfl) (by kernel_rfl) (by kernel_rfl) (by kernel_rfl) (fun _ _ _ h => h) (by rfl) (fun w5 hS5 => ?_) HS ?_
    rotate_left
    · obtain ⟨⟨s1, s2⟩, s3⟩ := hS5
      go_simp
      try rfl
    try simp only [Act.put, List.setIfInBounds_toArray, List.set_cons_zero, List.set_cons_succ]
    refine Rg.Upto.take (i := 21) (v := ?_) rfl (by kernel_rfl) (by kernel_rfl) (by kernel_rfl) (by kernel_rfl) (fun _ _ _ h => h) (by rfl) (fun w5 hS5 => ?_) HS ?_
    rotate_left
    · obtain ⟨⟨s1, s2⟩, s3⟩ := hS5
      go_simp
      try rfl
    try simp only [Act.put, List.setIfInBounds_toArray, List.set_cons_zero, List.set_cons_succ]
    refine Rg.Upto.one (i := 22) rfl (by kernel_rfl) (by rfl) (fun K hK => ?_)
    go_simp
    refine hK.out _ _ ⟨⟨(World.cell?_alloc_lt wr _ _ lP).trans b5, (World.cell?_alloc_lt wr _ _ lP).trans b6⟩, (World.cell?_alloc_lt wr _ _ lA).trans b1⟩ ?_
    clear hK K
    try simp only [Act.put, List.setIfInBounds_toArray, List.set_cons_zero, List.set_cons_succ]
    refine Rg.Upto.one (i := 23) rfl (by kernel_rfl) (by rfl) (fun K hK => ?_)
    refine wp_append_lies _ (.tmp 97) (.tmp 109) 64 rfl B 75 i0 _ 7 56 Try.underlying64 hi0 hz0 hz1 hz2 rfl (by omega) lv s.log.length (s.log.flatMap Acc.cells) rfl ((mL.alloc _).drew) ⟨wr.heap.size, 0, none⟩ 1 1 (Acc.cells ⟨who, kind, at_, want, put, seen, left⟩) rfl rfl
      (World.news_of_block (cs := #[.int .i64 who, .int .i64 kind, .int .i64 at_, .int .u64 want, .int .u64 put, .int .u64 seen, .int .u64 left]) (t := 75) (fr := (0, 0)) (blk_new wr _)) (by simp [Value.oneCell', Acc.cells]) (by omega) (by unfold maxLen; omega) (by omega) (by show B ≤ (wr.alloc _).heap.size; simp; omega) (wr.heap.size + 1) (by show (wr.alloc _).heap.size = _; simp) ?_
    intro gg cap w4 own4 grow4 at4 lt4
    have e0 : Fr (fun k => lv.ownBlock = some k) wr w4 := ((Fr.refl _ wr).alloc _).drew.grown grow4 (fun k hk => .inl hk)
    have fA := e0.blk mA hla
    have fC := e0.blk mC (fun z => hlc z)
    have fP := e0.blk mP hlp
    obtain ⟨x1, y1⟩ := blk_cell fA 1 (v := lv) rfl
    obtain ⟨x5, y5⟩ := blk_cell fP 0 (v := .pointer (some ⟨a, 0, none⟩)) rfl
    obtain ⟨x6, y6⟩ := blk_cell fP 1 (v := .int .i64 who) rfl
    refine hK.out _ _ ⟨⟨x5, x6⟩, x1⟩ ?_
    clear hK K
    try simp only [Act.put, List.setIfInBounds_toArray, List.set_cons_zero, List.set_cons_succ]
    refine Rg.Upto.one (i := 24) rfl (by kernel_rfl) (by rfl) (fun K hK => ?_)
    go_simp
    refine hK.out _ _ ⟨⟨x5, x6⟩, x1⟩ ?_
    clear hK K
    try simp only [Act.put, List.setIfInBounds_toArray, List.set_cons_zero, List.set_cons_succ]
    refine Rg.Upto.one (i := 25) rfl (by kernel_rfl) (by rfl) (fun K hK => ?_)
    go_simp
    refine hK.out _ _ ⟨⟨x5, x6⟩, x1⟩ ?_
    clear hK K
    try simp only [Act.put, List.setIfInBounds_toArray, List.set_cons_zero, List.set_cons_succ]
    refine Rg.Upto.last rfl (by kernel_rfl) (by kernel_rfl) (by rfl) (fun K hK => ?_)
    go_simp
    refine hK.out _ _ ?_
    clear hK K
    go_wp2
    go_ret
    refine ⟨rfl, .slice (some ⟨gg, 0, none⟩) (s.log.length + 1) cap, ⟨?_, ?_, ?_, ?_⟩, ?_, ?_, ?_, ?_⟩
    · have := blk_set fA 1 (.slice (some ⟨gg, 0, none⟩) (s.log.length + 1) cap)
      simpa [AS.done] using this
    · have := blk_far fC ⟨a, 1, none⟩ (Ne.symm n1) (.slice (some ⟨gg, 0, none⟩) (s.log.length + 1) cap)
      simpa [AS.done] using this
    · have := own_far own4 ⟨a, 1, none⟩ (.slice (some ⟨gg, 0, none⟩) (s.log.length + 1) cap) (own_ne own4 fA (by decide))
      simpa [AS.done, hk] using this
    · simpa [AS.done] using mS
    · exact blk_far fP ⟨a, 1, none⟩ (Ne.symm n2) _
    · exact hJ _ _ jr ((e0.mono (fun k _ hk => .inr (.inr hk))).setCell _ _ (.inl (.inl rfl)))
    · exact ((mF.mono (fun k _ hk => by rcases hk with h | h | h | h <;> simp [h])).then e0 (fun k _ hk => .inr (.inr (.inr (.inr hk))))).setCell _ _ (.inl (.inl rfl))
    · rcases at4 with h | h
      · left; rw [h]; rfl
      · right
        intro k hk
        have e : gg = k := by simpa [Value.ownBlock] using hk
        have := mF.size
        omega
  · have hk : s.keep = false := by first | assumption | simp_all
    rw [← hwr]
    go_ret
    refine ⟨rfl, lv, ?_, HM.2.1, jr, HM.2.2.mono (fun k _ hk => by rcases hk with h | h | h | h <;> simp [h]), .inl rfl⟩
    have := HM.1
    unfold AS.done
    rw [hk] at this ⊢
    exact this
end Go.Proofs.Ytcnledehnefldaa.Ar

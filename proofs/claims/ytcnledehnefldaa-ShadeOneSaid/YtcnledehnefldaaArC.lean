/- The six methods that make an access. -/
import Derived.Test.YtcnledehnefldaaArB
namespace Go.Proofs.Ytcnledehnefldaa.Ar
open Go Go.RowKit Go.Proofs.Ytcnledehnefldaa.Hp
set_option linter.unusedVariables false
set_option linter.unusedSimpArgs false

/-- What the cell holds behind an access. -/
def leftOf (kind seen want put : Int) : Int :=
  if kind = 1 then seen else if kind = 4 then (if seen = want then put else seen) else if kind = 5 then bits BinOp.or IntKind.u64 seen put else if kind = 6 then bits BinOp.and IntKind.u64 seen put else put

/-- A call through a port: the state behind it, and what it tells. -/
def AS.acc (s : AS) (g : Bool) (who kind at_ want put : Int) : AS × Int :=
  if g = true ∧ s.has at_ = true then (s.done ⟨who, kind, at_, want, put, s.cells.getD at_.toNat 0, leftOf kind (s.cells.getD at_.toNat 0) want put⟩, s.cells.getD at_.toNat 0) else (s.fault, 0)

set_option maxHeartbeats 2000000 in
theorem accessAll (B : Nat) (w : World) (p a c : Nat) (lv : Value) (s : AS) (who kind at_ want put : Int) (g : Bool) (fk : Nat) (caps : Array Value) (D : Nat → Prop) (J : Bool → World → Prop) (h : IsA B w a c lv s) (hp : IsP w p a who g) (hB : B ≤ w.heap.size) (hlen : s.log.length ≤ 1000000)
    (hD : ∀ k, D k → k ≠ a ∧ k ≠ c ∧ k ≠ p ∧ lv.ownBlock ≠ some k)
    (eg : ∀ args w, (callFunc fk args).run Try.prog w = .ok (.enter fk args) w)
    (hf : ∀ w1 seen, Fr (fun k => k = a ∨ k = p) w w1 → seen = s.cells.getD at_.toNat 0 → Calls Try.prog fk (#[.int .u64 seen] ++ caps) w1 fun e w2 => e = .returned (.int .u64 (leftOf kind seen want put)) ∧ Fr D w1 w2 ∧ J true w2)
    (hJ0 : ∀ w1, Fr (fun k => k = a ∨ k = p) w w1 → J false w1)
    (hJ : ∀ w2 w3, J true w2 → Fr (fun k => k = a ∨ k = c ∨ lv.ownBlock = some k) w2 w3 → J true w3) :
    Calls Try.prog 75 #[.pointer (some ⟨p, 0, none⟩), .int .i64 kind, .int .i64 at_, .int .u64 want, .int .u64 put, .func (.func fk) #[] caps] w fun e w' => e = .returned (.int .u64 (s.acc g who kind at_ want put).2) ∧
      ∃ lv', IsA B w' a c lv' (s.acc g who kind at_ want put).1 ∧ IsP w' p a who false ∧ J (decide (g = true ∧ s.has at_ = true)) w' ∧ Fr (fun k => k = a ∨ k = p ∨ k = c ∨ D k ∨ lv.ownBlock = some k) w w' ∧ (lv'.ownBlock = lv.ownBlock ∨ ∀ k, lv'.ownBlock = some k → w.heap.size ≤ k) := by
  unfold AS.acc
  by_cases hc : g = true ∧ s.has at_ = true
  · rw [if_pos hc, decide_eq_true hc]
    obtain ⟨rfl, hh⟩ := hc
    have hh2 := of_decide_eq_true hh
    refine (access B w p a c lv s who kind at_ want put _ _ fk caps D (J true) h hp hB hlen hh2.1 hh2.2 rfl hD eg ?_ hJ).mono fun e w' hw => hw
    intro w1 F1
    exact hf w1 _ F1 rfl
  · rw [if_neg hc, decide_eq_false hc]
    refine (access_no B w p a c lv s who kind at_ want put g (.func (.func fk) #[] caps) h hp (fun hg => by
      cases hh : s.has at_ with
      | false => rfl
      | true => exact absurd ⟨hg, hh⟩ hc)).mono ?_
    rintro e w' ⟨rfl, hA, hP, hF⟩
    exact ⟨rfl, lv, hA, hP, hJ0 _ hF, hF.mono (fun k _ hk => by rcases hk with h | h <;> simp [h]), .inl rfl⟩

/-- The world behind a call through a port. -/
def Post (B : Nat) (w w' : World) (p a c : Nat) (who : Int) (lv : Value) (s' : AS) : Prop :=
  ∃ lv', IsA B w' a c lv' s' ∧ IsP w' p a who false ∧ Fr (fun k => k = a ∨ k = p ∨ k = c ∨ lv.ownBlock = some k) w w' ∧ (lv'.ownBlock = lv.ownBlock ∨ ∀ k, lv'.ownBlock = some k → w.heap.size ≤ k)
theorem egLoad : ∀ args w, (callFunc 85 args).run Try.prog w = .ok (.enter 85 args) w := fun args w => rfl
theorem egStore : ∀ args w, (callFunc 78 args).run Try.prog w = .ok (.enter 78 args) w := fun args w => rfl
theorem egOr : ∀ args w, (callFunc 76 args).run Try.prog w = .ok (.enter 76 args) w := fun args w => rfl
set_option maxHeartbeats 4000000 in
theorem mLoad (B : Nat) (w : World) (p a c : Nat) (lv : Value) (s : AS) (who at_ : Int) (g : Bool) (h : IsA B w a c lv s) (hp : IsP w p a who g) (hB : B ≤ w.heap.size) (hlen : s.log.length ≤ 1000000) :
    Calls Try.prog 66 #[.pointer (some ⟨p, 0, none⟩), .int .i64 at_] w fun e w' => e = .returned (.int .u64 (s.acc g who 1 at_ 0 0).2) ∧ Post B w w' p a c who lv (s.acc g who 1 at_ 0 0).1 := by
  have h1 := h
  have hp1 := hp
  have hacc := accessAll B w p a c lv s who 1 at_ 0 0 g 85 #[] (fun _ => False) (fun _ _ => True) h1 hp1 hB hlen (fun _ => False.elim) egLoad ?hf (fun _ _ => trivial) (fun _ _ _ _ => trivial)
  case hf =>
    intro w1 seen F1 hse
    clear hse
    show Calls _ _ #[.int .u64 seen] _ _
    clear hp1 h1 h hp
    go_enter Try.func85, Try.ntmps85
    go_wp2
    go_ret
    exact ⟨rfl, Fr.refl _ _, trivial⟩
  clear h1 hp1
  go_enter Try.func66, Try.ntmps66
  go_wp2_with (first | (go_at_call 75; refine hacc.mono ?_; rintro e w' ⟨rfl, lv', gA, gP, -, gF, gL⟩))
  go_ret
  exact ⟨rfl, lv', gA, gP, gF.mono (fun k _ hk => by rcases hk with h | h | h | h | h <;> simp_all), gL⟩

set_option maxHeartbeats 4000000 in
theorem mStore (B : Nat) (w : World) (p a c : Nat) (lv : Value) (s : AS) (who at_ v : Int) (g : Bool) (h : IsA B w a c lv s) (hp : IsP w p a who g) (hB : B ≤ w.heap.size) (hlen : s.log.length ≤ 1000000) :
    Calls Try.prog 53 #[.pointer (some ⟨p, 0, none⟩), .int .i64 at_, .int .u64 v] w fun e w' => e = .returned (.tuple #[]) ∧ Post B w w' p a c who lv (s.acc g who 2 at_ 0 v).1 := by
  have F0 : Fr (fun _ => False) w (w.alloc (.cells #[.int .u64 v] 24)) := (Fr.refl _ w).alloc _
  have hb := blk_new w (.cells #[.int .u64 v] 24)
  have h1 := h.fr F0 id id (fun _ _ => id)
  have hp1 := hp.fr F0 id
  have ln := F0.size
  have lA := blk_lt h.blk
  have lC := blk_lt h.cel
  have lP := blk_lt hp
  have hacc := accessAll B (w.alloc (.cells #[.int .u64 v] 24)) p a c lv s who 2 at_ 0 v g 78 #[.pointer (some ⟨w.heap.size, 0, none⟩)] (fun _ => False) (fun _ _ => True) h1 hp1 (Nat.le_trans hB ln) hlen (fun _ => False.elim) egStore ?hf (fun _ _ => trivial) (fun _ _ _ _ => trivial)
  case hf =>
    intro w1 seen F1 hse
    clear hse
    obtain ⟨c0, _⟩ := blk_cell (F1.blk hb (fun z => by omega)) 0 (v := .int .u64 v) rfl
    show Calls _ _ #[.int .u64 seen, .pointer (some ⟨w.heap.size, 0, none⟩)] _ _
    clear hp1 h1 h hp
    go_enter Try.func78, Try.ntmps78
    go_wp2
    go_ret
    exact ⟨rfl, Fr.refl _ _, trivial⟩
  clear h1 hp1
  go_enter Try.func53, Try.ntmps53
  go_wp2_with (first | (go_at_call 75; refine hacc.mono ?_; rintro e w' ⟨rfl, lv', gA, gP, -, gF, gL⟩))
  go_end0
  exact ⟨rfl, lv', gA, gP, (F0.mono (fun _ _ => False.elim)).then gF (fun k _ hk => by rcases hk with h | h | h | h | h <;> simp_all), gL.imp_right (fun hl k hk => Nat.le_trans ln (hl k hk))⟩

set_option maxHeartbeats 4000000 in
theorem mOr (B : Nat) (w : World) (p a c : Nat) (lv : Value) (s : AS) (who at_ v : Int) (g : Bool) (h : IsA B w a c lv s) (hp : IsP w p a who g) (hB : B ≤ w.heap.size) (hlen : s.log.length ≤ 1000000) :
    Calls Try.prog 49 #[.pointer (some ⟨p, 0, none⟩), .int .i64 at_, .int .u64 v] w fun e w' => e = .returned (.int .u64 (s.acc g who 5 at_ 0 v).2) ∧ Post B w w' p a c who lv (s.acc g who 5 at_ 0 v).1 := by
  have F0 : Fr (fun _ => False) w (w.alloc (.cells #[.int .u64 v] 24)) := (Fr.refl _ w).alloc _
  have hb := blk_new w (.cells #[.int .u64 v] 24)
  have h1 := h.fr F0 id id (fun _ _ => id)
  have hp1 := hp.fr F0 id
  have ln := F0.size
  have lA := blk_lt h.blk
  have lC := blk_lt h.cel
  have lP := blk_lt hp
  have hacc := accessAll B (w.alloc (.cells #[.int .u64 v] 24)) p a c lv s who 5 at_ 0 v g 76 #[.pointer (some ⟨w.heap.size, 0, none⟩)] (fun _ => False) (fun _ _ => True) h1 hp1 (Nat.le_trans hB ln) hlen (fun _ => False.elim) egOr ?hf (fun _ _ => trivial) (fun _ _ _ _ => trivial)
  case hf =>
    intro w1 seen F1 hse
    clear hse
    obtain ⟨c0, _⟩ := blk_cell (F1.blk hb (fun z => by omega)) 0 (v := .int .u64 v) rfl
    show Calls _ _ #[.int .u64 seen, .pointer (some ⟨w.heap.size, 0, none⟩)] _ _
    clear hp1 h1 h hp
    go_enter Try.func76, Try.ntmps76
    go_wp2
    go_ret
    exact ⟨rfl, Fr.refl _ _, trivial⟩
  clear h1 hp1
  go_enter Try.func49, Try.ntmps49
  go_wp2_with (first | (go_at_call 75; refine hacc.mono ?_; rintro e w' ⟨rfl, lv', gA, gP, -, gF, gL⟩))
  go_ret
  exact ⟨rfl, lv', gA, gP, (F0.mono (fun _ _ => False.elim)).then gF (fun k _ hk => by rcases hk with h | h | h | h | h <;> simp_all), gL.imp_right (fun hl k hk => Nat.le_trans ln (hl k hk))⟩

end Go.Proofs.Ytcnledehnefldaa.Ar

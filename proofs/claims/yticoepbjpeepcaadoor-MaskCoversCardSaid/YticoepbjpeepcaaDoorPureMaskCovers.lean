/- The rows of places that stand one behind the other: what the iterator gives, what the law asks of it. -/
import Derived.Test.YticoepbjpeepcaaDoorMkC
namespace Go.Proofs.YticoepbjpeepcaaDoor.Cov
open Go Go.RowKit Go.Proofs.YticoepbjpeepcaaDoor.PAll Go.Proofs.YticoepbjpeepcaaDoorW.PrintWords Go.Proofs.YticoepbjpeepcaaDoorW.PrintLast Go.Proofs.YticoepbjpeepcaaDoorW.PrintMore
open Go.Proofs.YticoepbjpeepcaaDoor.Eo Go.Proofs.YticoepbjpeepcaaDoor.Wd Go.Proofs.YticoepbjpeepcaaDoor.Bt Go.Proofs.YticoepbjpeepcaaDoor.Wp Go.Proofs.YticoepbjpeepcaaDoor.Mk
set_option linter.unusedVariables false
set_option linter.unusedSimpArgs false
set_option linter.unusedSectionVars false

/-- Where a row begins, how many there are. -/
abbrev X := { x : Nat × Nat // x.1 + x.2 ≤ 512 }
def endOf (l : List X) : Nat := (l.getLast?).elim 0 fun x => x.1.1 + x.1.2
def cntOf (l : List X) : Nat := (l.map fun x => x.1.2).sum
theorem endOf_nil : endOf [] = 0 := rfl
theorem endOf_snoc (l : List X) (x : X) : endOf (l ++ [x]) = x.1.1 + x.1.2 := by simp [endOf]
theorem cntOf_snoc (l : List X) (x : X) : cntOf (l ++ [x]) = cntOf l + x.1.2 := by simp [cntOf]
theorem endOf_le (l : List X) : endOf l ≤ 512 := by
  unfold endOf
  cases h : l.getLast? with
  | none => simp
  | some x => exact x.2
theorem cntOf_le : ∀ l : List X, cntOf l ≤ 512 * l.length
  | [] => by simp [cntOf]
  | x :: l => by
    have h := cntOf_le l
    have hx := x.2
    have e : cntOf (x :: l) = x.1.2 + cntOf l := by simp [cntOf]
    rw [e, List.length_cons]
    omega

structure Okay (L : List Int) (e : Nat) (x : X) : Prop where
  le : e ≤ x.1.1
  ne : x.1.1 = e → e = 0
  pos : 1 ≤ x.1.2
  lt : x.1.1 + x.1.2 ≤ 64 * L.length
  gap : ∀ j, e ≤ j → j < x.1.1 → mem L j = false
  run : ∀ j, x.1.1 ≤ j → j < x.1.1 + x.1.2 → mem L j = true

inductive Good (L : List Int) : List X → Prop where
  | nil : Good L []
  | snoc {pre : List X} {x : X} : Good L pre → Okay L (endOf pre) x → mem L (x.1.1 + x.1.2) = false → Good L (pre ++ [x])

theorem Good.last {L : List Int} {pre : List X} {x : X} (h : Good L (pre ++ [x])) : Okay L (endOf pre) x := by
  generalize hl : pre ++ [x] = l at h
  cases h with
  | nil => simp at hl
  | snoc h1 h2 h3 =>
    obtain ⟨rfl, e⟩ := List.append_inj' hl rfl
    cases e
    exact h2
theorem Good.clear {L : List Int} {l : List X} (h : Good L l) : l = [] ∨ mem L (endOf l) = false := by
  cases h with
  | nil => exact .inl rfl
  | snoc h1 h2 h3 => exact .inr (by rw [endOf_snoc]; exact h3)
theorem cnt_run (p : Nat → Bool) (f : Nat) : ∀ n, (∀ j, f ≤ j → j < f + n → p j = true) → cnt p (f + n) = cnt p f + n
  | 0, _ => rfl
  | n + 1, h => by
    have ih := cnt_run p f n fun j h1 h2 => h j h1 (by omega)
    show cnt p (f + n) + (if p (f + n) then 1 else 0) = cnt p f + (n + 1)
    rw [ih, if_pos (h (f + n) (by omega) (by omega))]
    omega
theorem Good.count {L : List Int} {l : List X} (h : Good L l) : cntOf l = cnt (mem L) (endOf l) := by
  induction h with
  | nil => rfl
  | snoc h1 h2 h3 ih =>
    rw [cntOf_snoc, endOf_snoc, cnt_run _ _ _ h2.run, cnt_beyond h2.le h2.gap, ih]

/-- The end: no place any more. -/
def Done (L : List Int) (l : List X) : Prop := Good L l ∧ ∀ j, endOf l ≤ j → mem L j = false
theorem Done.size {L : List Int} {l : List X} (h : Done L l) : cntOf l = size L := by
  rw [h.1.count]
  by_cases hh : endOf l ≤ 64 * L.length
  · exact (cnt_beyond hh fun i h1 h2 => h.2 i h1).symm
  · exact size_to L (by omega)
theorem Done.next {L : List Int} {l : List X} (h : Done L l) (hl : AllW L) (hn : L.length ≤ 8) : ∃ k, mask_Next.f k L (endOf l : Int) = some (-1) := by
  obtain ⟨r, hr, k, hk⟩ := next_eo hl (by omega) (a := (endOf l : Int)) (by have := endOf_le l; omega)
  rcases hr with ⟨j, h1, h2, h3, h4, rfl⟩ | ⟨h1, rfl⟩
  · rw [Int.toNat_natCast] at h1
    rw [h.2 j h1] at h3
    cases h3
  · exact ⟨k, hk k (Nat.le_refl _)⟩
/-- A row more, or none. -/
theorem step {L : List Int} {l : List X} (h : Good L l) (hl : AllW L) (hn : L.length ≤ 8) : ∃ k r, mask_Next.f k L (endOf l : Int) = some r ∧
    ((r = -1 ∧ Done L l) ∨ ∃ (x : X) (k2 : Nat) (c : Int), r = x.1.1 ∧ mask_Clear.f k2 L (x.1.1 : Int) = some c ∧ ((c = -1 ∧ x.1.1 + x.1.2 = 64 * L.length) ∨ c = ((x.1.1 + x.1.2 : Nat) : Int)) ∧ Good L (l ++ [x])) := by
  obtain ⟨r, hr, k, hk⟩ := next_eo hl (by omega) (a := (endOf l : Int)) (by have := endOf_le l; omega)
  refine ⟨k, r, hk k (Nat.le_refl _), ?_⟩
  rw [Int.toNat_natCast] at hr
  rcases hr with ⟨f, h1, h2, h3, h4, rfl⟩ | ⟨h1, rfl⟩
  · refine .inr ?_
    obtain ⟨c, hc, k2, hk2⟩ := clear_eo hl (by omega) (a := (f : Int)) (by omega)
    rw [Int.toNat_natCast] at hc
    have hne : f = endOf l → endOf l = 0 := fun e => by
      rcases h.clear with rfl | h5
      · rfl
      · rw [← e, h3] at h5; cases h5
    rcases hc with ⟨g, g1, g2, g3, g4, rfl⟩ | ⟨g1, rfl⟩
    · have gf : f < g := by
        rcases Nat.lt_or_ge f g with h | h
        · exact h
        · obtain rfl : f = g := by omega
          simp [h3] at g3
      refine ⟨⟨(f, g - f), by show f + (g - f) ≤ 512; omega⟩, k2, g, rfl, hk2 k2 (Nat.le_refl _), .inr (by show (g : Int) = ((f + (g - f) : Nat) : Int); omega), .snoc h ⟨h1, hne, by show 1 ≤ g - f; omega, by show f + (g - f) ≤ _; omega, h4, fun j j1 j2 => ?_⟩ ?_⟩
      · have j2 : j < f + (g - f) := j2
        have := g4 j j1 (by omega)
        simpa using this
      · show mem L (f + (g - f)) = false
        rw [show f + (g - f) = g by omega]
        simpa using g3
    · refine ⟨⟨(f, 64 * L.length - f), by show f + (64 * L.length - f) ≤ 512; omega⟩, k2, -1, rfl, hk2 k2 (Nat.le_refl _), .inl ⟨rfl, by show f + (64 * L.length - f) = _; omega⟩, .snoc h ⟨h1, hne, by show 1 ≤ 64 * L.length - f; omega, by show f + (64 * L.length - f) ≤ _; omega, h4, fun j j1 j2 => ?_⟩ ?_⟩
      · have j2 : j < f + (64 * L.length - f) := j2
        have := g1 j j1 (by omega)
        simpa using this
      · show mem L (f + (64 * L.length - f)) = false
        exact mem_high (by omega)
  · refine .inl ⟨rfl, h, fun j hj => ?_⟩
    by_cases hh : j < 64 * L.length
    · exact h1 j hj hh
    · exact mem_high (by omega)
theorem good_len {L : List Int} {l : List X} (h : Good L l) : l.length ≤ endOf l := by
  induction h with
  | nil => simp
  | snoc h1 h2 h3 ih =>
    rw [List.length_append, endOf_snoc]
    have := h2.le
    have := h2.pos
    simp
    omega
end Go.Proofs.YticoepbjpeepcaaDoor.Cov

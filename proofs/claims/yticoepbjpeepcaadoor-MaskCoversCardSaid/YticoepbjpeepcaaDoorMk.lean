/- Sets of places as lists of words: which place is in one; two lists of one length with the same places are the same. -/
import Derived.Test.YticoepbjpeepcaaDoorBt
import Derived.Test.YticoepbjpeepcaaDoorWMore
namespace Go.Proofs.YticoepbjpeepcaaDoor.Mk
open Go Go.RowKit Go.Proofs.YticoepbjpeepcaaDoorW.PrintWords Go.Proofs.YticoepbjpeepcaaDoorW.PrintLast Go.Proofs.YticoepbjpeepcaaDoorW.PrintMore
open Go.Proofs.YticoepbjpeepcaaDoor.Eo Go.Proofs.YticoepbjpeepcaaDoor.Wd Go.Proofs.YticoepbjpeepcaaDoor.Bt
set_option linter.unusedVariables false
set_option linter.unusedSimpArgs false
set_option linter.unusedSectionVars false

/-- Each number of the list is a word. -/
def AllW (l : List Int) : Prop := ∀ x ∈ l, W x

theorem gD_lt {l : List Int} {j : Nat} (h : j < l.length) : l.getD j 0 = l[j] := by
  rw [List.getD_eq_getElem?_getD, List.getElem?_eq_getElem h]; rfl
theorem gD_mem {l : List Int} {j : Nat} (h : j < l.length) : l.getD j 0 ∈ l := by rw [gD_lt h]; exact List.getElem_mem _
theorem gD_ge {l : List Int} {j : Nat} (h : l.length ≤ j) : l.getD j 0 = 0 := by
  rw [List.getD_eq_getElem?_getD, List.getElem?_eq_none h]; rfl
theorem gD_left {l m : List Int} {j : Nat} (h : j < l.length) : (l ++ m).getD j 0 = l.getD j 0 := by
  rw [List.getD_eq_getElem?_getD, List.getElem?_append_left h, List.getD_eq_getElem?_getD]
theorem gD_right {l m : List Int} {j : Nat} (h : l.length ≤ j) : (l ++ m).getD j 0 = m.getD (j - l.length) 0 := by
  rw [List.getD_eq_getElem?_getD, List.getElem?_append_right h, List.getD_eq_getElem?_getD]

/-- Is a number a place of the set? -/
def mem (l : List Int) (i : Nat) : Bool := tb (l.getD (i / 64) 0) (i % 64)

theorem AllW.getD {l : List Int} (h : AllW l) (j : Nat) : W (l.getD j 0) := by
  by_cases hj : j < l.length
  · rw [gD_lt hj]; exact h _ (List.getElem_mem hj)
  · rw [gD_ge (by omega)]; exact W_zero

theorem mem_high {l : List Int} {i : Nat} (h : 64 * l.length ≤ i) : mem l i = false := by
  unfold mem
  rw [gD_ge (by omega)]; exact tb_zero _

theorem mem_lt {l : List Int} {i : Nat} (h : mem l i = true) : i < 64 * l.length := by
  by_cases hi : i < 64 * l.length
  · exact hi
  · rw [mem_high (by omega)] at h; cases h

theorem mem_at (l : List Int) {j p : Nat} (hp : p < 64) : mem l (64 * j + p) = tb (l.getD j 0) p := by
  unfold mem
  rw [show (64 * j + p) / 64 = j by omega, show (64 * j + p) % 64 = p by omega]

theorem mem_ext {l m : List Int} (hl : AllW l) (hm : AllW m) (hn : l.length = m.length) (h : ∀ i, i < 64 * l.length → mem l i = mem m i) : l = m := by
  refine List.ext_getElem hn fun j h1 h2 => ?_
  have a := hl.getD j
  have b := hm.getD j
  rw [← gD_lt h1, ← gD_lt h2]
  refine ext a b fun p hp => ?_
  rw [← mem_at l hp, ← mem_at m hp]
  exact h _ (by omega)

theorem AllW.set {l : List Int} (h : AllW l) {x : Int} (hx : W x) (j : Nat) : AllW (l.set j x) := by
  intro y hy
  rcases List.mem_or_eq_of_mem_set hy with h1 | h1
  · exact h _ h1
  · exact h1 ▸ hx

theorem AllW.append {l m : List Int} (h : AllW l) (h2 : AllW m) : AllW (l ++ m) := by
  intro y hy
  rcases List.mem_append.mp hy with h1 | h1
  · exact h _ h1
  · exact h2 _ h1

theorem AllW.zeros (n : Nat) : AllW (List.replicate n 0) := by
  intro y hy
  rw [(List.mem_replicate.mp hy).2]; exact W_zero

theorem getD_set (l : List Int) (j k : Nat) (x : Int) (hj : j < l.length) : (l.set j x).getD k 0 = if k = j then x else l.getD k 0 := by
  rw [List.getD_eq_getElem?_getD, List.getElem?_set, List.getD_eq_getElem?_getD]
  by_cases h : j = k
  · subst h; rw [if_pos rfl, if_pos hj, if_pos rfl]; rfl
  · rw [if_neg h, if_neg (fun z => h z.symm)]

theorem mem_set (l : List Int) {j : Nat} (x : Int) (hj : j < l.length) (i : Nat) : mem (l.set j x) i = if i / 64 = j then tb x (i % 64) else mem l i := by
  unfold mem
  rw [getD_set l j _ x hj]
  split <;> rfl

theorem mem_zeros (n i : Nat) : mem (List.replicate n 0) i = false := by
  unfold mem
  have : (List.replicate n (0 : Int)).getD (i / 64) 0 = 0 := by
    rw [List.getD_eq_getElem?_getD, List.getElem?_replicate]; split <;> rfl
  rw [this]; exact tb_zero _

theorem mem_pad (l : List Int) (n i : Nat) : mem (l ++ List.replicate n 0) i = mem l i := by
  unfold mem
  by_cases h : i / 64 < l.length
  · rw [gD_left h]
  · rw [gD_right (by omega), gD_ge (l := l) (by omega)]
    have : (List.replicate n (0 : Int)).getD (i / 64 - l.length) 0 = 0 := by
      rw [List.getD_eq_getElem?_getD, List.getElem?_replicate]; split <;> rfl
    rw [this]

/-- A bit is set. -/
theorem set_bit {l : List Int} (hl : AllW l) {a : Nat} (ha : a / 64 < l.length) {p : Int} (hp : p = 2 ^ (a % 64)) :
    AllW (l.set (a / 64) (Go.bits .or .u64 (l.getD (a / 64) 0) p)) ∧ ∀ i, mem (l.set (a / 64) (Go.bits .or .u64 (l.getD (a / 64) 0) p)) i = (mem l i || decide (i = a)) := by
  have hw : W p := by
    rw [hp]
    have : (2 : Nat) ^ (a % 64) < 2 ^ 64 := Nat.pow_lt_pow_right (by decide) (by omega)
    have e : (2 : Int) ^ (a % 64) = ((2 ^ (a % 64) : Nat) : Int) := by rw [Int.natCast_pow]; rfl
    rw [e]; exact W_nat this
  have tp : ∀ i, tb p i = decide (i = a % 64) := by
    intro i
    have e : (2 : Int) ^ (a % 64) = ((2 ^ (a % 64) : Nat) : Int) := by rw [Int.natCast_pow]; rfl
    rw [hp, e, tb_nat, Nat.testBit_two_pow]
    by_cases h : i = a % 64
    · rw [decide_eq_true h, decide_eq_true h.symm]
    · rw [decide_eq_false h, decide_eq_false (fun z => h z.symm)]
  refine ⟨hl.set (W_or (hl.getD _) hw) _, fun i => ?_⟩
  rw [mem_set _ _ ha]
  by_cases h : i / 64 = a / 64
  · rw [if_pos h, tb_or (hl.getD _) hw, tp]
    have e1 : tb (l.getD (a / 64) 0) (i % 64) = mem l i := by unfold mem; rw [h]
    rw [e1]
    have e2 : (i % 64 = a % 64) ↔ i = a := by omega
    rw [show decide (i % 64 = a % 64) = decide (i = a) from decide_eq_decide.mpr e2]
  · rw [if_neg h, decide_eq_false (by rintro rfl; exact h rfl), Bool.or_false]

/-- A bit is cleared. -/
theorem clear_bit {l : List Int} (hl : AllW l) {a : Nat} (ha : a / 64 < l.length) {p : Int} (hp : p = 2 ^ (a % 64)) :
    AllW (l.set (a / 64) (Go.bits .andNot .u64 (l.getD (a / 64) 0) p)) ∧ ∀ i, mem (l.set (a / 64) (Go.bits .andNot .u64 (l.getD (a / 64) 0) p)) i = (mem l i && !decide (i = a)) := by
  have hw : W p := by
    rw [hp]
    have : (2 : Nat) ^ (a % 64) < 2 ^ 64 := Nat.pow_lt_pow_right (by decide) (by omega)
    have e : (2 : Int) ^ (a % 64) = ((2 ^ (a % 64) : Nat) : Int) := by rw [Int.natCast_pow]; rfl
    rw [e]; exact W_nat this
  have tp : ∀ i, tb p i = decide (i = a % 64) := by
    intro i
    have e : (2 : Int) ^ (a % 64) = ((2 ^ (a % 64) : Nat) : Int) := by rw [Int.natCast_pow]; rfl
    rw [hp, e, tb_nat, Nat.testBit_two_pow]
    by_cases h : i = a % 64
    · rw [decide_eq_true h, decide_eq_true h.symm]
    · rw [decide_eq_false h, decide_eq_false (fun z => h z.symm)]
  refine ⟨hl.set (W_andNot (hl.getD _) hw) _, fun i => ?_⟩
  rw [mem_set _ _ ha]
  by_cases h : i / 64 = a / 64
  · rw [if_pos h, tb_andNot (hl.getD _) hw, tp]
    have e1 : tb (l.getD (a / 64) 0) (i % 64) = mem l i := by unfold mem; rw [h]
    rw [e1]
    have e2 : (i % 64 = a % 64) ↔ i = a := by omega
    rw [show decide (i % 64 = a % 64) = decide (i = a) from decide_eq_decide.mpr e2]
  · rw [if_neg h, decide_eq_false (by rintro rfl; exact h rfl)]; simp

/-- The first number from one on of which p holds, below an end. -/
def NextR (p : Nat → Bool) (e from_ : Nat) (r : Int) : Prop :=
  (∃ k : Nat, from_ ≤ k ∧ k < e ∧ p k = true ∧ (∀ j, from_ ≤ j → j < k → p j = false) ∧ r = k) ∨ ((∀ j, from_ ≤ j → j < e → p j = false) ∧ r = -1)

theorem nextR_unique {p : Nat → Bool} {e f : Nat} {r s : Int} (hr : NextR p e f r) (hs : NextR p e f s) : r = s := by
  rcases hr with ⟨k, h1, h2, h3, h4, rfl⟩ | ⟨h1, rfl⟩ <;> rcases hs with ⟨m, g1, g2, g3, g4, rfl⟩ | ⟨g1, rfl⟩
  · by_cases hkm : k < m
    · rw [g4 k h1 hkm] at h3; cases h3
    · by_cases hmk : m < k
      · rw [h4 m g1 hmk] at g3; cases g3
      · rw [show k = m by omega]
  · rw [g1 k h1 h2] at h3; cases h3
  · rw [h1 m g1 g2] at g3; cases g3
  · rfl

theorem nextR_exists (p : Nat → Bool) (e : Nat) : ∀ d f : Nat, e ≤ f + d → ∃ r, NextR p e f r := by
  intro d
  induction d with
  | zero => intro f h; exact ⟨-1, .inr ⟨fun j h1 h2 => by omega, rfl⟩⟩
  | succ d ih =>
    intro f h
    by_cases hf : f < e
    · cases hp : p f with
      | true => exact ⟨f, .inl ⟨f, Nat.le_refl _, hf, hp, fun j h1 h2 => by omega, rfl⟩⟩
      | false =>
        obtain ⟨r, hr⟩ := ih (f + 1) (by omega)
        refine ⟨r, ?_⟩
        rcases hr with ⟨k, h1, h2, h3, h4, rfl⟩ | ⟨h1, rfl⟩
        · exact .inl ⟨k, by omega, h2, h3, fun j g1 g2 => by
            by_cases hj : j = f
            · subst hj; exact hp
            · exact h4 j (by omega) g2, rfl⟩
        · exact .inr ⟨fun j g1 g2 => by
            by_cases hj : j = f
            · subst hj; exact hp
            · exact h1 j (by omega) g2, rfl⟩
    · exact ⟨-1, .inr ⟨fun j h1 h2 => by omega, rfl⟩⟩

/-- Room for n numbers at a place. -/
def Free (p : Nat → Bool) (e n a : Nat) : Prop := a + n ≤ e ∧ ∀ j, j < n → p (a + j) = false
def FitR (p : Nat → Bool) (e n : Nat) (r : Int) : Prop := (∃ a : Nat, Free p e n a ∧ (∀ b, b < a → ¬ Free p e n b) ∧ r = a) ∨ ((∀ b, ¬ Free p e n b) ∧ r = -1)

theorem fitR_unique {p : Nat → Bool} {e n : Nat} {r s : Int} (hr : FitR p e n r) (hs : FitR p e n s) : r = s := by
  rcases hr with ⟨a, h1, h2, rfl⟩ | ⟨h1, rfl⟩ <;> rcases hs with ⟨b, g1, g2, rfl⟩ | ⟨g1, rfl⟩
  · by_cases hab : a < b
    · exact absurd h1 (g2 a hab)
    · by_cases hba : b < a
      · exact absurd g1 (h2 b hba)
      · rw [show a = b by omega]
  · exact absurd h1 (g1 a)
  · exact absurd g1 (h1 b)
  · rfl

/-- How many places. -/
def size (l : List Int) : Nat := cnt (mem l) (64 * l.length)

theorem cnt_all_false {p : Nat → Bool} {n : Nat} (h : ∀ i, i < n → p i = false) : cnt p n = 0 := by
  induction n with
  | zero => rfl
  | succ n ih => unfold cnt; rw [ih fun i hi => h i (by omega), h n (by omega)]; rfl

theorem cnt_zero {p : Nat → Bool} {n : Nat} (h : cnt p n = 0) : ∀ i, i < n → p i = false := by
  induction n with
  | zero => intro i hi; omega
  | succ n ih =>
    unfold cnt at h
    intro i hi
    by_cases hin : i < n
    · exact ih (by omega) i hin
    · obtain rfl : i = n := by omega
      cases hp : p i
      · rfl
      · rw [hp] at h; simp at h

theorem cnt_beyond {p : Nat → Bool} {a b : Nat} (hab : a ≤ b) (h : ∀ i, a ≤ i → i < b → p i = false) : cnt p b = cnt p a := by
  obtain ⟨d, rfl⟩ : ∃ d, b = a + d := ⟨b - a, by omega⟩
  rw [cnt_add, cnt_all_false (fun i hi => h (a + i) (by omega) (by omega))]; rfl

/-- Counted up to whatever bound beyond the end. -/
theorem size_to (l : List Int) {n : Nat} (h : 64 * l.length ≤ n) : cnt (mem l) n = size l :=
  cnt_beyond h fun i h1 _ => mem_high h1

theorem cnt_or_andNot (p q : Nat → Bool) (n : Nat) : cnt (fun i => p i || q i) n = cnt p n + cnt (fun i => q i && !p i) n := by
  induction n with
  | zero => rfl
  | succ n ih =>
    have h : ∀ x y : Bool, (if (x || y) = true then 1 else 0 : Nat) = (if x = true then 1 else 0) + (if (y && !x) = true then 1 else 0) := by decide
    have h' := h (p n) (q n)
    simp only [cnt]
    omega
end Go.Proofs.YticoepbjpeepcaaDoor.Mk

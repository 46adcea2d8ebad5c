/- The set of a list of places: the program's and the chapter's. -/
import Derived.Test.YtddkockeeodklaaDoorMk
import Derived.Test.YtddkockeeodklaaDoorWpA
import Derived.Test.YtddkockeeodklaaDoorPAllx
namespace Go.Proofs.YtddkockeeodklaaDoor.Mk
open Go Go.RowKit Go.Proofs.YtddkockeeodklaaDoor.PAll Go.Proofs.YtddkockeeodklaaDoorW.PrintWords Go.Proofs.YtddkockeeodklaaDoorW.PrintLast Go.Proofs.YtddkockeeodklaaDoorW.PrintMore
open Go.Proofs.YtddkockeeodklaaDoor.Eo Go.Proofs.YtddkockeeodklaaDoor.Wd Go.Proofs.YtddkockeeodklaaDoor.Bt Go.Proofs.YtddkockeeodklaaDoor.Wp
set_option linter.unusedVariables false
set_option linter.unusedSimpArgs false
set_option linter.unusedSectionVars false

theorem dv {n : Nat} (h : n < 9223372036854775808) : wrap64 (Int.tdiv (n : Int) 64) = ((n / 64 : Nat) : Int) := by
  rw [td (by omega), w64 (by omega) (by omega)]; omega

theorem md (n : Nat) : Int.tmod (n : Int) 64 = ((n % 64 : Nat) : Int) := by
  rw [tm (by omega)]; omega

theorem shl1 {n : Nat} (h : n < 64) : shl .u64 1 (n : Int) = 2 ^ n := by
  show IntKind.u64.wrap (1 * 2 ^ min ((n : Int).toNat) 64) = _
  have e2 : (2 : Int) ^ n = ((2 ^ n : Nat) : Int) := by rw [Int.natCast_pow]; rfl
  have hp : 2 ^ n ≤ 2 ^ 63 := Nat.pow_le_pow_right (by decide) (by omega)
  rw [show min ((n : Int).toNat) 64 = n by omega, Int.one_mul, e2, u64i (Int.natCast_nonneg _) (by omega)]

theorem rdn (l : List Int) (j : Nat) : rd l (j : Int) = l.getD j 0 := by unfold rd; rw [Int.toNat_natCast]

/-- All are places. -/
def ok (l : List Int) : Prop := ∀ x ∈ l, 0 ≤ x ∧ x < 65536

theorem ok.getD {l : List Int} (h : ok l) {j : Nat} (hj : j < l.length) : 0 ≤ l.getD j 0 ∧ l.getD j 0 < 65536 := by
  rw [gD_lt hj]; exact h _ (List.getElem_mem hj)

def top : List Int → Int → Int
  | [], m => m
  | x :: xs, m => top xs (mx m x)

theorem mx_eq (a b : Int) : (mx a b = a ∧ b ≤ a) ∨ (mx a b = b ∧ a < b) := by
  unfold mx
  split
  · exact .inr ⟨rfl, by assumption⟩
  · exact .inl ⟨rfl, by omega⟩

theorem top_bd : ∀ {l : List Int} {m : Int}, ok l → -1 ≤ m → m < 65536 → -1 ≤ top l m ∧ top l m < 65536 ∧ m ≤ top l m ∧ ∀ x ∈ l, x ≤ top l m := by
  intro l
  induction l with
  | nil => intro m _ h1 h2; exact ⟨h1, h2, Int.le_refl _, fun x hx => by cases hx⟩
  | cons y l ih =>
    intro m hl h1 h2
    have hy := hl y List.mem_cons_self
    have hm : -1 ≤ mx m y ∧ mx m y < 65536 ∧ m ≤ mx m y ∧ y ≤ mx m y := by rcases mx_eq m y with h | h <;> omega
    obtain ⟨a, b, c, d⟩ := ih (fun x hx => hl x (List.mem_cons_of_mem _ hx)) hm.1 hm.2.1
    refine ⟨a, b, by show m ≤ top l (mx m y); omega, fun x hx => ?_⟩
    show x ≤ top l (mx m y)
    rcases List.mem_cons.mp hx with rfl | hx
    · omega
    · exact d x hx

theorem drop_cons (L : List Int) {j : Nat} (h : j < L.length) : L.drop j = L.getD j 0 :: L.drop (j + 1) := by
  rw [List.drop_eq_getElem_cons h, gD_lt h]

theorem take_mem {L : List Int} {j : Nat} (hj : j < L.length) (x : Int) : decide (x ∈ L.take (j + 1)) = (decide (x ∈ L.take j) || decide (x = L.getD j 0)) := by
  rw [List.take_succ_eq_append_getElem hj, gD_lt hj, Bool.eq_iff_iff]
  simp only [List.mem_append, List.mem_singleton, Bool.or_eq_true, decide_eq_true_eq]

/-! The chapter's. -/
def rtop : List Int → Int → Int
  | [], w => w
  | x :: xs, w => rtop xs (if x / 64 + 1 > w then x / 64 + 1 else w)

theorem rtop_bd : ∀ {l : List Int} {w : Int}, ok l → 0 ≤ w → w ≤ 1024 → 0 ≤ rtop l w ∧ rtop l w ≤ 1024 ∧ w ≤ rtop l w ∧ ∀ x ∈ l, x < 64 * rtop l w := by
  intro l
  induction l with
  | nil => intro m _ h1 h2; exact ⟨h1, h2, Int.le_refl _, fun x hx => by cases hx⟩
  | cons y l ih =>
    intro m hl h1 h2
    have hy := hl y List.mem_cons_self
    have hm : ∃ m', (if y / 64 + 1 > m then y / 64 + 1 else m) = m' ∧ 0 ≤ m' ∧ m' ≤ 1024 ∧ m ≤ m' ∧ y < 64 * m' := by
      refine ⟨_, rfl, ?_⟩; split <;> omega
    obtain ⟨m', e, hm⟩ := hm
    obtain ⟨a, b, c, d⟩ := ih (fun x hx => hl x (List.mem_cons_of_mem _ hx)) hm.1 hm.2.1
    unfold rtop
    rw [e]
    refine ⟨a, b, by omega, fun x hx => ?_⟩
    rcases List.mem_cons.mp hx with rfl | hx
    · omega
    · exact d x hx

theorem rtop_top : ∀ {l : List Int} {m : Int}, ok l → -1 ≤ m → rtop l ((m + 64) / 64) = (top l m + 64) / 64 := by
  intro l
  induction l with
  | nil => intro m _ _; rfl
  | cons y l ih =>
    intro m hl h1
    have hy := hl y List.mem_cons_self
    have e : (if y / 64 + 1 > (m + 64) / 64 then y / 64 + 1 else (m + 64) / 64) = (mx m y + 64) / 64 := by
      rcases mx_eq m y with h | h <;> rw [h.1] <;> split <;> omega
    unfold rtop top
    rw [e]
    exact ih (fun x hx => hl x (List.mem_cons_of_mem _ hx)) (by rcases mx_eq m y with h | h <;> omega)

theorem rtop_in : ∀ {l : List Int} {w : Int}, (∀ x ∈ l, x < 64 * w) → rtop l w = w := by
  intro l
  induction l with
  | nil => intro w _; rfl
  | cons y l ih =>
    intro w hl
    have hy := hl y List.mem_cons_self
    unfold rtop
    rw [if_neg (by omega)]
    exact ih fun x hx => hl x (List.mem_cons_of_mem _ hx)

theorem rtop_append : ∀ {l m : List Int} {w : Int}, rtop (l ++ m) w = rtop m (rtop l w) := by
  intro l
  induction l with
  | nil => intro m w; rfl
  | cons y l ih => intro m w; simp only [List.cons_append, rtop]; exact ih

/-- A power is added where the bit isn't there. -/
theorem add_bit {l : List Int} (hl : AllW l) {a : Nat} (ha : a / 64 < l.length) (h0 : mem l a = false) :
    AllW (l.set (a / 64) (IntKind.u64.wrap (l.getD (a / 64) 0 + 2 ^ (a % 64)))) ∧ ∀ i, mem (l.set (a / 64) (IntKind.u64.wrap (l.getD (a / 64) 0 + 2 ^ (a % 64)))) i = (mem l i || decide (i = a)) := by
  have h1 : tb (l.getD (a / 64) 0) (a % 64) = false := h0
  obtain ⟨hW, htb⟩ := addbit (hl.getD (a / 64)) (p := a % 64) (by omega) h1
  rw [u64i hW.1 (by have := hW.2; omega)]
  refine ⟨hl.set hW _, fun i => ?_⟩
  rw [mem_set _ _ ha]
  by_cases h : i / 64 = a / 64
  · rw [if_pos h, htb]
    have e1 : tb (l.getD (a / 64) 0) (i % 64) = mem l i := by unfold mem; rw [h]
    rw [e1]
    have e2 : (i % 64 = a % 64) ↔ i = a := by omega
    rw [show decide (i % 64 = a % 64) = decide (i = a) from decide_eq_decide.mpr e2]
  · rw [if_neg h, decide_eq_false (by rintro rfl; exact h rfl), Bool.or_false]

end Go.Proofs.YtddkockeeodklaaDoor.Mk

/- The set of a list of places: the program's and the chapter's. -/
import Derived.Test.YticoepbjpeepcaaDoorMk
import Derived.Test.YticoepbjpeepcaaDoorWpA
import Derived.Test.YticoepbjpeepcaaDoorPAllx
namespace Go.Proofs.YticoepbjpeepcaaDoor.Mk
open Go Go.RowKit Go.Proofs.YticoepbjpeepcaaDoor.PAll Go.Proofs.YticoepbjpeepcaaDoorW.PrintWords Go.Proofs.YticoepbjpeepcaaDoorW.PrintLast Go.Proofs.YticoepbjpeepcaaDoorW.PrintMore
open Go.Proofs.YticoepbjpeepcaaDoor.Eo Go.Proofs.YticoepbjpeepcaaDoor.Wd Go.Proofs.YticoepbjpeepcaaDoor.Bt Go.Proofs.YticoepbjpeepcaaDoor.Wp
set_option linter.unusedVariables false
set_option linter.unusedSimpArgs false
set_option linter.unusedSectionVars false

theorem dv {n : Nat} (h : n < 9223372036854775808) : wrap64 (Int.tdiv (n : Int) 64) = ((n / 64 : Nat) : Int) := by
  rw [td (by omega), w64 (by omega) (by omega)]; omega

theorem md (n : Nat) : Int.tmod (n : Int) 64 = ((n % 64 : Nat) : Int) := by
  rw [tm (by omega)]; omega

theorem shl1 {n : Nat} (h : n < 64) : shl .u64 1 (n : Int) = 2 ^ n := by
  show IntKind.u64.wrap (1 * 2 ^ min ((n : Int).toNat) 64) = _
  have e2 : (2 : Int) ^ n = ((2 ^ n : Nat) : Int) := by rw [Int.natCast_pow]; rfl
  have hp : 2 ^ n ≤ 2 ^ 63 := Nat.pow_le_pow_right (by decide) (by omega)
  rw [show min ((n : Int).toNat) 64 = n by omega, Int.one_mul, e2, u64i (Int.natCast_nonneg _) (by omega)]

theorem rdn (l : List Int) (j : Nat) : rd l (j : Int) = l.getD j 0 := by unfold rd; rw [Int.toNat_natCast]

/-- All are places. -/
def ok (l : List Int) : Prop := ∀ x ∈ l, 0 ≤ x ∧ x < 65536

theorem ok.getD {l : List Int} (h : ok l) {j : Nat} (hj : j < l.length) : 0 ≤ l.getD j 0 ∧ l.getD j 0 < 65536 := by
  rw [gD_lt hj]; exact h _ (List.getElem_mem hj)

def top : List Int → Int → Int
  | [], m => m
  | x :: xs, m => top xs (mx m x)

theorem mx_eq (a b : Int) : (mx a b = a ∧ b ≤ a) ∨ (mx a b = b ∧ a < b) := by
  unfold mx
  split
  · exact .inr ⟨rfl, by assumption⟩
  · exact .inl ⟨rfl, by omega⟩

theorem top_bd : ∀ {l : List Int} {m : Int}, ok l → -1 ≤ m → m < 65536 → -1 ≤ top l m ∧ top l m < 65536 ∧ m ≤ top l m ∧ ∀ x ∈ l, x ≤ top l m := by
  intro l
  induction l with
  | nil => intro m _ h1 h2; exact ⟨h1, h2, Int.le_refl _, fun x hx => by cases hx⟩
  | cons y l ih =>
    intro m hl h1 h2
    have hy := hl y List.mem_cons_self
    have hm : -1 ≤ mx m y ∧ mx m y < 65536 ∧ m ≤ mx m y ∧ y ≤ mx m y := by rcases mx_eq m y with h | h <;> omega
    obtain ⟨a, b, c, d⟩ := ih (fun x hx => hl x (List.mem_cons_of_mem _ hx)) hm.1 hm.2.1
    refine ⟨a, b, by show m ≤ top l (mx m y); omega, fun x hx => ?_⟩
    show x ≤ top l (mx m y)
    rcases List.mem_cons.mp hx with rfl | hx
    · omega
    · exact d x hx

theorem drop_cons (L : List Int) {j : Nat} (h : j < L.length) : L.drop j = L.getD j 0 :: L.drop (j + 1) := by
  rw [List.drop_eq_getElem_cons h, gD_lt h]

theorem of_l0_ok {L : List Int} (hL : ok L) (hn : L.length ≤ 1000000) {r : List Int × Int} : ∀ d j : Nat, j + d = L.length → ∀ m : Int, -1 ≤ m → m < 65536 →
    Eo (fun k => mask_Of.l1 k (List.replicate ((top (L.drop j) m + 64) / 64).toNat 0) L (L.length : Int) 0) r → Eo (fun k => mask_Of.l0 k L m L (L.length : Int) (j : Int)) r := by
  intro d
  induction d with
  | zero =>
    intro j hj m h1 h2 h
    rw [List.drop_eq_nil_of_le (by omega)] at h
    refine h.round fun k => ?_
    rw [mask_Of.l0, w64 (x := m + 64) (by omega) (by omega), td (a := m + 64) (by omega), w64 (x := (m + 64) / 64) (by omega) (by omega)]
    exact itn (by omega) (itp (by omega) (itp (by omega) rfl))
  | succ d ih =>
    intro j hj m h1 h2 h
    have hx := hL.getD (j := j) (by omega)
    rw [drop_cons L (by omega)] at h
    have hm : -1 ≤ mx m (L.getD j 0) ∧ mx m (L.getD j 0) < 65536 := by rcases mx_eq m (L.getD j 0) with h | h <;> omega
    refine (ih (j + 1) (by omega) _ hm.1 hm.2 h).round fun k => ?_
    rw [mask_Of.l0, rdn, w64 (x := (j : Int) + 1) (by omega) (by omega)]
    exact itp (by omega) (itp (by omega) (itp (by omega) (itn (by omega) (itn (by omega) rfl))))

theorem of_l0_no {L : List Int} (hn : L.length ≤ 1000000) : ∀ d j : Nat, j + d = L.length → ∀ m : Int, (∃ q, j ≤ q ∧ q < L.length ∧ ¬ (0 ≤ L.getD q 0 ∧ L.getD q 0 < 65536)) →
    Eo (fun k => mask_Of.l0 k L m L (L.length : Int) (j : Int)) ([], 1) := by
  intro d
  induction d with
  | zero =>
    intro j hj m ⟨q, h1, h2, _⟩
    omega
  | succ d ih =>
    intro j hj m hq
    by_cases hx : 0 ≤ L.getD j 0 ∧ L.getD j 0 < 65536
    · obtain ⟨q, h1, h2, h3⟩ := hq
      have hqj : q ≠ j := by rintro rfl; exact h3 hx
      refine (ih (j + 1) (by omega) (mx m (L.getD j 0)) ⟨q, by omega, h2, h3⟩).round fun k => ?_
      rw [mask_Of.l0, rdn, w64 (x := (j : Int) + 1) (by omega) (by omega)]
      exact itp (by omega) (itp (by omega) (itp (by omega) (itn (by omega) (itn (by omega) rfl))))
    · refine (Eo.of (g := fun _ => some (([] : List Int), (1 : Int))) fun _ => rfl).round fun k => ?_
      rw [mask_Of.l0, rdn]
      refine itp (by omega) (itp (by omega) (itp (by omega) ?_))
      by_cases h0 : L.getD j 0 < 0
      · exact itp h0 rfl
      · exact itn h0 (itp (by omega) rfl)

theorem take_mem {L : List Int} {j : Nat} (hj : j < L.length) (x : Int) : decide (x ∈ L.take (j + 1)) = (decide (x ∈ L.take j) || decide (x = L.getD j 0)) := by
  rw [List.take_succ_eq_append_getElem hj, gD_lt hj, Bool.eq_iff_iff]
  simp only [List.mem_append, List.mem_singleton, Bool.or_eq_true, decide_eq_true_eq]

theorem of_l1 {L : List Int} (hL : ok L) (hn : L.length ≤ 1000000) {n : Nat} (hN : ∀ x ∈ L, x < 64 * n) (hn2 : n ≤ 100000) : ∀ d j : Nat, j + d = L.length → ∀ x : List Int, AllW x → x.length = n → (∀ i : Nat, mem x i = decide ((i : Int) ∈ L.take j)) →
    ∃ out, AllW out ∧ out.length = n ∧ (∀ i : Nat, mem out i = decide ((i : Int) ∈ L)) ∧ Eo (fun k => mask_Of.l1 k x L (L.length : Int) (j : Int)) (out, 0) := by
  intro d
  induction d with
  | zero =>
    intro j hj x hw hx hm
    rw [List.take_of_length_le (by omega)] at hm
    refine ⟨x, hw, hx, hm, (Eo.of (g := fun _ => some (x, (0 : Int))) fun _ => rfl).round fun k => ?_⟩
    rw [mask_Of.l1]
    exact itn (by omega) rfl
  | succ d ih =>
    intro j hj x hw hx hm
    obtain ⟨p, hp⟩ := Int.eq_ofNat_of_zero_le (hL.getD (j := j) (by omega)).1
    have hp2 := (hL.getD (j := j) (by omega)).2
    have hpn : p < 64 * n := by
      have := hN (L.getD j 0) (by rw [gD_lt (by omega)]; exact List.getElem_mem _)
      omega
    have hb := set_bit hw (a := p) (by omega) rfl
    obtain ⟨out, h1, h2, h3, h4⟩ := ih (j + 1) (by omega) _ hb.1 (by rw [List.length_set]; exact hx) (fun i => by
      rw [hb.2, hm, take_mem (by omega), hp]
      congr 1
      exact decide_eq_decide.mpr (by omega))
    refine ⟨out, h1, h2, h3, h4.round fun k => ?_⟩
    rw [mask_Of.l1, rdn, hp, dv (by omega), md, shl1 (by omega), rdn, w64 (x := (j : Int) + 1) (by omega) (by omega), Int.toNat_natCast]
    exact itp (by omega) (itp (by omega) (itp (by omega) (itp (by omega) (itp (by omega) (itp (by omega) rfl)))))

theorem of_yes {L : List Int} (hL : ok L) (hn : L.length ≤ 1000000) : ∃ out, AllW out ∧ out.length = ((top L (-1) + 64) / 64).toNat ∧ (∀ i : Nat, mem out i = decide ((i : Int) ∈ L)) ∧ Eo (fun k => mask_Of.f k L) (out, 0) := by
  obtain ⟨b1, b2, b3, b4⟩ := top_bd hL (m := -1) (by omega) (by omega)
  obtain ⟨out, h1, h2, h3, h4⟩ := of_l1 hL hn (n := ((top L (-1) + 64) / 64).toNat) (fun x hx => by have := b4 x hx; omega) (by omega) L.length 0 (by omega) _ (AllW.zeros _) List.length_replicate (fun i => by rw [mem_zeros]; simp)
  exact ⟨out, h1, h2, h3, of_l0_ok hL hn L.length 0 (by omega) (-1) (by omega) (by omega) h4⟩

theorem of_no {L : List Int} (hn : L.length ≤ 1000000) (hL : ¬ ok L) : Eo (fun k => mask_Of.f k L) ([], 1) := by
  refine of_l0_no hn L.length 0 (by omega) (-1) ?_
  unfold ok at hL
  obtain ⟨x, hx⟩ := Classical.not_forall.mp hL
  obtain ⟨hx, h⟩ := Classical.not_imp.mp hx
  obtain ⟨q, hq, e⟩ := List.getElem_of_mem hx
  exact ⟨q, by omega, hq, by rw [gD_lt hq, e]; exact h⟩

/-! The chapter's. -/
def rtop : List Int → Int → Int
  | [], w => w
  | x :: xs, w => rtop xs (if x / 64 + 1 > w then x / 64 + 1 else w)

theorem rtop_bd : ∀ {l : List Int} {w : Int}, ok l → 0 ≤ w → w ≤ 1024 → 0 ≤ rtop l w ∧ rtop l w ≤ 1024 ∧ w ≤ rtop l w ∧ ∀ x ∈ l, x < 64 * rtop l w := by
  intro l
  induction l with
  | nil => intro m _ h1 h2; exact ⟨h1, h2, Int.le_refl _, fun x hx => by cases hx⟩
  | cons y l ih =>
    intro m hl h1 h2
    have hy := hl y List.mem_cons_self
    have hm : ∃ m', (if y / 64 + 1 > m then y / 64 + 1 else m) = m' ∧ 0 ≤ m' ∧ m' ≤ 1024 ∧ m ≤ m' ∧ y < 64 * m' := by
      refine ⟨_, rfl, ?_⟩; split <;> omega
    obtain ⟨m', e, hm⟩ := hm
    obtain ⟨a, b, c, d⟩ := ih (fun x hx => hl x (List.mem_cons_of_mem _ hx)) hm.1 hm.2.1
    unfold rtop
    rw [e]
    refine ⟨a, b, by omega, fun x hx => ?_⟩
    rcases List.mem_cons.mp hx with rfl | hx
    · omega
    · exact d x hx

theorem rtop_top : ∀ {l : List Int} {m : Int}, ok l → -1 ≤ m → rtop l ((m + 64) / 64) = (top l m + 64) / 64 := by
  intro l
  induction l with
  | nil => intro m _ _; rfl
  | cons y l ih =>
    intro m hl h1
    have hy := hl y List.mem_cons_self
    have e : (if y / 64 + 1 > (m + 64) / 64 then y / 64 + 1 else (m + 64) / 64) = (mx m y + 64) / 64 := by
      rcases mx_eq m y with h | h <;> rw [h.1] <;> split <;> omega
    unfold rtop top
    rw [e]
    exact ih (fun x hx => hl x (List.mem_cons_of_mem _ hx)) (by rcases mx_eq m y with h | h <;> omega)

theorem rtop_in : ∀ {l : List Int} {w : Int}, (∀ x ∈ l, x < 64 * w) → rtop l w = w := by
  intro l
  induction l with
  | nil => intro w _; rfl
  | cons y l ih =>
    intro w hl
    have hy := hl y List.mem_cons_self
    unfold rtop
    rw [if_neg (by omega)]
    exact ih fun x hx => hl x (List.mem_cons_of_mem _ hx)

theorem rtop_append : ∀ {l m : List Int} {w : Int}, rtop (l ++ m) w = rtop m (rtop l w) := by
  intro l
  induction l with
  | nil => intro m w; rfl
  | cons y l ih => intro m w; simp only [List.cons_append, rtop]; exact ih

/-- A power is added where the bit isn't there. -/
theorem add_bit {l : List Int} (hl : AllW l) {a : Nat} (ha : a / 64 < l.length) (h0 : mem l a = false) :
    AllW (l.set (a / 64) (IntKind.u64.wrap (l.getD (a / 64) 0 + 2 ^ (a % 64)))) ∧ ∀ i, mem (l.set (a / 64) (IntKind.u64.wrap (l.getD (a / 64) 0 + 2 ^ (a % 64)))) i = (mem l i || decide (i = a)) := by
  have h1 : tb (l.getD (a / 64) 0) (a % 64) = false := h0
  obtain ⟨hW, htb⟩ := addbit (hl.getD (a / 64)) (p := a % 64) (by omega) h1
  rw [u64i hW.1 (by have := hW.2; omega)]
  refine ⟨hl.set hW _, fun i => ?_⟩
  rw [mem_set _ _ ha]
  by_cases h : i / 64 = a / 64
  · rw [if_pos h, htb]
    have e1 : tb (l.getD (a / 64) 0) (i % 64) = mem l i := by unfold mem; rw [h]
    rw [e1]
    have e2 : (i % 64 = a % 64) ↔ i = a := by omega
    rw [show decide (i % 64 = a % 64) = decide (i = a) from decide_eq_decide.mpr e2]
  · rw [if_neg h, decide_eq_false (by rintro rfl; exact h rfl), Bool.or_false]

end Go.Proofs.YticoepbjpeepcaaDoor.Mk

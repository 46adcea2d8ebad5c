/- The next place, the next number that is none, the first room: the program's and the chapter's. -/
import Derived.Test.YticoepbjpeepcaaDoorMkA
import Derived.Test.YticoepbjpeepcaaDoorWpC
import Derived.Test.YticoepbjpeepcaaDoorWpD
namespace Go.Proofs.YticoepbjpeepcaaDoor.Mk
open Go Go.RowKit Go.Proofs.YticoepbjpeepcaaDoor.PAll Go.Proofs.YticoepbjpeepcaaDoorW.PrintWords Go.Proofs.YticoepbjpeepcaaDoorW.PrintLast Go.Proofs.YticoepbjpeepcaaDoorW.PrintMore
open Go.Proofs.YticoepbjpeepcaaDoor.Eo Go.Proofs.YticoepbjpeepcaaDoor.Wd Go.Proofs.YticoepbjpeepcaaDoor.Bt Go.Proofs.YticoepbjpeepcaaDoor.Wp
set_option linter.unusedVariables false
set_option linter.unusedSimpArgs false
set_option linter.unusedSectionVars false

theorem umax : IntKind.u64.max = 18446744073709551615 := rfl

theorem mono_all {α : Type} {f : Nat → Option α} (hm : ∀ k, LeO (f k) (f (k + 1))) {K : Nat} {r : α} (h : f K = some r) : Eo f r := by
  refine ⟨K, fun k hk => ?_⟩
  obtain ⟨d, rfl⟩ : ∃ d, k = K + d := ⟨k - K, by omega⟩
  clear hk
  induction d with
  | zero => exact h
  | succ d ih => exact hm _ _ ih

theorem masked_eo : Eo (fun k => windrowlaw04_masked.f k) true := mono_all windrowlaw04_masked.mono (K := 200) (by decide +kernel)

theorem words_go (L : List Int) (hn : L.length < 9223372036854775807) : ∀ d j : Nat, j + d = L.length → Eo (fun k => windrowref01_Words.l0 k L L (j : Int)) true := by
  intro d
  induction d with
  | zero =>
    intro j hj
    refine (Eo.of (g := fun _ => some true) fun _ => rfl).round fun k => ?_
    rw [windrowref01_Words.l0]; exact itn (by omega) rfl
  | succ d ih =>
    intro j hj
    refine (ih (j + 1) (by omega)).round fun k => ?_
    rw [windrowref01_Words.l0, w64 (x := (j : Int) + 1) (by omega) (by omega)]
    exact itp (by omega) (itp (by omega) (itp (by omega) (itp rfl rfl)))

theorem words_eo (L : List Int) (hn : L.length < 9223372036854775807) : Eo (fun k => windrowref01_Words.f k L L) true :=
  (words_go L hn L.length 0 (by omega)).congr fun k => by unfold windrowref01_Words.f; exact itp rfl rfl

theorem wfAll {l : List Int} (h : ∀ x ∈ l, (Lit.int .u64 x).wf = true) : AllW l := fun x hx => wfW (h x hx)

/-- A word that holds what stands at 64 numbers. -/
theorem word_case {P : Nat → Bool} {e : Nat} {w : Int} (hw : W w) {f i : Nat} (hi : 64 * i + 64 ≤ e) (hb : ∀ j, f ≤ j → j < 64 * i → P j = false)
    (ht : ∀ p, p < 64 → tb w p = (P (64 * i + p) && decide (f ≤ 64 * i + p))) :
    (w = 0 ∧ ∀ j, f ≤ j → j < 64 * (i + 1) → P j = false) ∨ (w ≠ 0 ∧ ∃ k : Nat, k < 64 ∧ tz w = k ∧ NextR P e f ((64 * i + k : Nat) : Int)) := by
  by_cases h0 : w = 0
  · refine .inl ⟨h0, fun j h1 h2 => ?_⟩
    by_cases hj : j < 64 * i
    · exact hb j h1 hj
    · have := ht (j - 64 * i) (by omega)
      rw [h0, tb_zero, show 64 * i + (j - 64 * i) = j by omega, decide_eq_true h1, Bool.and_true] at this
      exact this.symm
  · obtain ⟨k, hk, hl⟩ := low_exists hw h0
    refine .inr ⟨h0, k, hk, tz_low hw hk hl, .inl ⟨64 * i + k, ?_, by omega, ?_, fun j h1 h2 => ?_, rfl⟩⟩
    · have := ht k hk
      rw [hl.1] at this
      have := (Bool.and_eq_true _ _ ▸ this.symm : P (64 * i + k) = true ∧ decide (f ≤ 64 * i + k) = true)
      exact of_decide_eq_true this.2
    · have := ht k hk
      rw [hl.1] at this
      have := (Bool.and_eq_true _ _ ▸ this.symm : P (64 * i + k) = true ∧ decide (f ≤ 64 * i + k) = true)
      exact this.1
    · by_cases hj : j < 64 * i
      · exact hb j h1 hj
      · have := ht (j - 64 * i) (by omega)
        rw [hl.2 _ (by omega), show 64 * i + (j - 64 * i) = j by omega, decide_eq_true h1, Bool.and_true] at this
        exact this.symm

theorem mask_lit {n : Nat} (hn : n < 64) : word_Mask.f (n : Int) = some (2 ^ n - 1) := mask_eq (by omega)

theorem next_go {l : List Int} (hl : AllW l) (hn : l.length ≤ 100000) {f : Nat} (hf : f < 9223372036854775808) : ∀ d i : Nat, l.length ≤ i + d → i < 9223372036854775807 → f / 64 ≤ i → (∀ j, f ≤ j → j < 64 * i → mem l j = false) →
    ∃ r, NextR (mem l) (64 * l.length) f r ∧ Eo (fun k => mask_Next.l0 k l (f : Int) (i : Int)) r := by
  have stop : ∀ i : Nat, l.length ≤ i → (∀ j, f ≤ j → j < 64 * i → mem l j = false) → ∃ r, NextR (mem l) (64 * l.length) f r ∧ Eo (fun k => mask_Next.l0 k l (f : Int) (i : Int)) r := by
    intro i hi hb
    refine ⟨-1, .inr ⟨fun j h1 h2 => hb j h1 (by omega), rfl⟩, (Eo.of (g := fun _ => some (-1 : Int)) fun _ => rfl).round fun k => ?_⟩
    rw [mask_Next.l0]; exact itn (by omega) rfl
  intro d
  induction d with
  | zero => intro i hi _ _ hb; exact stop i (by omega) hb
  | succ d ih =>
    intro i hi hi2 hfi hb
    by_cases hil : l.length ≤ i
    · exact stop i hil hb
    · have hw := hl.getD i
      by_cases hc : i = f / 64
      · have hm := W_mask (n := f % 64) (by omega)
        have ht : ∀ p, p < 64 → tb (Go.bits .andNot .u64 (l.getD i 0) (2 ^ (f % 64) - 1)) p = (mem l (64 * i + p) && decide (f ≤ 64 * i + p)) := by
          intro p hp
          rw [tb_andNot hw hm, tb_mask, mem_at l hp]
          congr 1
          rw [Bool.eq_iff_iff]; simp; omega
        rcases word_case (e := 64 * l.length) (W_andNot hw hm) (by omega) hb ht with ⟨h0, hb2⟩ | ⟨h0, q, hq, e, hN⟩
        · obtain ⟨r, hr, h⟩ := ih (i + 1) (by omega) (by omega) (by omega) hb2
          refine ⟨r, hr, h.round fun k => ?_⟩
          rw [mask_Next.l0, dv hf, md, rdn, w64 (x := (i : Int) + 1) (by omega) (by omega)]
          exact itp (by omega) (itp (by omega) (itp (by omega) (bnd (mask_lit (by omega)) (itp h0 rfl))))
        · refine ⟨_, hN, (Eo.of (g := fun _ => some (((64 * i + q : Nat) : Int))) fun _ => rfl).round fun k => ?_⟩
          rw [mask_Next.l0, dv hf, md, rdn, w64 (x := (i : Int) * 64) (by omega) (by omega)]
          refine itp (by omega) (itp (by omega) (itp (by omega) (bnd (mask_lit (by omega)) (itn h0 (bnd (lowest_eq (W_andNot hw hm)) ?_)))))
          rw [e, w64 (by omega) (by omega)]; congr 1; omega
      · have ht : ∀ p, p < 64 → tb (l.getD i 0) p = (mem l (64 * i + p) && decide (f ≤ 64 * i + p)) := by
          intro p hp
          rw [mem_at l hp, decide_eq_true (by omega), Bool.and_true]
        rcases word_case (e := 64 * l.length) hw (by omega) hb ht with ⟨h0, hb2⟩ | ⟨h0, q, hq, e, hN⟩
        · obtain ⟨r, hr, h⟩ := ih (i + 1) (by omega) (by omega) (by omega) hb2
          refine ⟨r, hr, h.round fun k => ?_⟩
          rw [mask_Next.l0, dv hf, rdn, w64 (x := (i : Int) + 1) (by omega) (by omega)]
          exact itp (by omega) (itp (by omega) (itn (by omega) (itp h0 rfl)))
        · refine ⟨_, hN, (Eo.of (g := fun _ => some (((64 * i + q : Nat) : Int))) fun _ => rfl).round fun k => ?_⟩
          rw [mask_Next.l0, dv hf, rdn, w64 (x := (i : Int) * 64) (by omega) (by omega)]
          refine itp (by omega) (itp (by omega) (itn (by omega) (itn h0 (bnd (lowest_eq hw) ?_))))
          rw [e, w64 (by omega) (by omega)]; congr 1; omega

theorem mx0 {a : Int} (h : a < 9223372036854775808) : ∃ f : Nat, mx a 0 = f ∧ f < 9223372036854775808 ∧ f = a.toNat := by
  refine ⟨a.toNat, ?_, by omega, rfl⟩
  unfold mx; split <;> omega

theorem next_eo {l : List Int} (hl : AllW l) (hn : l.length ≤ 100000) {a : Int} (ha : a < 9223372036854775808) : ∃ r, NextR (mem l) (64 * l.length) a.toNat r ∧ Eo (fun k => mask_Next.f k l a) r := by
  obtain ⟨f, e, hf, rfl⟩ := mx0 ha
  obtain ⟨r, hr, h⟩ := next_go hl hn hf l.length (a.toNat / 64) (by omega) (by omega) (Nat.le_refl _) (fun j h1 h2 => by omega)
  refine ⟨r, hr, h.congr fun k => ?_⟩
  unfold mask_Next.f
  rw [e, dv hf]

theorem clear_go {l : List Int} (hl : AllW l) (hn : l.length ≤ 100000) {f : Nat} (hf : f < 9223372036854775808) : ∀ d i : Nat, l.length ≤ i + d → i < 9223372036854775807 → f / 64 ≤ i → (∀ j, f ≤ j → j < 64 * i → j < 64 * l.length → mem l j = true) →
    ∃ r, NextR (fun j => !mem l j) (64 * l.length) f r ∧ Eo (fun k => mask_Clear.l0 k l (f : Int) (i : Int)) r := by
  have stop : ∀ i : Nat, l.length ≤ i → (∀ j, f ≤ j → j < 64 * i → j < 64 * l.length → mem l j = true) → ∃ r, NextR (fun j => !mem l j) (64 * l.length) f r ∧ Eo (fun k => mask_Clear.l0 k l (f : Int) (i : Int)) r := by
    intro i hi hb
    refine ⟨-1, .inr ⟨fun j h1 h2 => by show (!mem l j) = false; rw [hb j h1 (by omega) h2]; rfl, rfl⟩, (Eo.of (g := fun _ => some (-1 : Int)) fun _ => rfl).round fun k => ?_⟩
    rw [mask_Clear.l0]; exact itn (by omega) rfl
  intro d
  induction d with
  | zero => intro i hi _ _ hb; exact stop i (by omega) hb
  | succ d ih =>
    intro i hi hi2 hfi hb
    by_cases hil : l.length ≤ i
    · exact stop i hil hb
    · have hw0 := hl.getD i
      have hw := W_xor W_ones hw0
      have hx : ∀ p, p < 64 → tb (Go.bits .xor .u64 18446744073709551615 (l.getD i 0)) p = !mem l (64 * i + p) := by
        intro p hp
        rw [tb_xor W_ones hw0, tb_ones, decide_eq_true hp, mem_at l hp, Bool.true_xor]
      have hb1 : ∀ j, f ≤ j → j < 64 * i → (fun j => !mem l j) j = false := fun j h1 h2 => by show (!mem l j) = false; rw [hb j h1 h2 (by omega)]; rfl
      have back : (∀ j, f ≤ j → j < 64 * (i + 1) → (fun j => !mem l j) j = false) → ∀ j, f ≤ j → j < 64 * (i + 1) → j < 64 * l.length → mem l j = true := fun h j h1 h2 _ => by
        have := h j h1 h2
        simpa using this
      by_cases hc : i = f / 64
      · have hm := W_mask (n := f % 64) (by omega)
        have ht : ∀ p, p < 64 → tb (Go.bits .andNot .u64 (Go.bits .xor .u64 18446744073709551615 (l.getD i 0)) (2 ^ (f % 64) - 1)) p = ((fun j => !mem l j) (64 * i + p) && decide (f ≤ 64 * i + p)) := by
          intro p hp
          rw [tb_andNot hw hm, tb_mask, hx p hp]
          congr 1
          rw [Bool.eq_iff_iff]; simp; omega
        rcases word_case (e := 64 * l.length) (W_andNot hw hm) (by omega) hb1 ht with ⟨h0, hb2⟩ | ⟨h0, q, hq, e, hN⟩
        · obtain ⟨r, hr, h⟩ := ih (i + 1) (by omega) (by omega) (by omega) (back hb2)
          refine ⟨r, hr, h.round fun k => ?_⟩
          rw [mask_Clear.l0, umax, dv hf, md, rdn, w64 (x := (i : Int) + 1) (by omega) (by omega)]
          exact itp (by omega) (itp (by omega) (itp (by omega) (bnd (mask_lit (by omega)) (itp h0 rfl))))
        · refine ⟨_, hN, (Eo.of (g := fun _ => some (((64 * i + q : Nat) : Int))) fun _ => rfl).round fun k => ?_⟩
          rw [mask_Clear.l0, umax, dv hf, md, rdn, w64 (x := (i : Int) * 64) (by omega) (by omega)]
          refine itp (by omega) (itp (by omega) (itp (by omega) (bnd (mask_lit (by omega)) (itn h0 (bnd (lowest_eq (W_andNot hw hm)) ?_)))))
          rw [e, w64 (by omega) (by omega)]; congr 1; omega
      · have ht : ∀ p, p < 64 → tb (Go.bits .xor .u64 18446744073709551615 (l.getD i 0)) p = ((fun j => !mem l j) (64 * i + p) && decide (f ≤ 64 * i + p)) := by
          intro p hp
          rw [hx p hp, decide_eq_true (by omega), Bool.and_true]
        rcases word_case (e := 64 * l.length) hw (by omega) hb1 ht with ⟨h0, hb2⟩ | ⟨h0, q, hq, e, hN⟩
        · obtain ⟨r, hr, h⟩ := ih (i + 1) (by omega) (by omega) (by omega) (back hb2)
          refine ⟨r, hr, h.round fun k => ?_⟩
          rw [mask_Clear.l0, umax, dv hf, rdn, w64 (x := (i : Int) + 1) (by omega) (by omega)]
          exact itp (by omega) (itp (by omega) (itn (by omega) (itp h0 rfl)))
        · refine ⟨_, hN, (Eo.of (g := fun _ => some (((64 * i + q : Nat) : Int))) fun _ => rfl).round fun k => ?_⟩
          rw [mask_Clear.l0, umax, dv hf, rdn, w64 (x := (i : Int) * 64) (by omega) (by omega)]
          refine itp (by omega) (itp (by omega) (itn (by omega) (itn h0 (bnd (lowest_eq hw) ?_))))
          rw [e, w64 (by omega) (by omega)]; congr 1; omega

theorem clear_eo {l : List Int} (hl : AllW l) (hn : l.length ≤ 100000) {a : Int} (ha : a < 9223372036854775808) : ∃ r, NextR (fun j => !mem l j) (64 * l.length) a.toNat r ∧ Eo (fun k => mask_Clear.f k l a) r := by
  obtain ⟨f, e, hf, rfl⟩ := mx0 ha
  obtain ⟨r, hr, h⟩ := clear_go hl hn hf l.length (a.toNat / 64) (by omega) (by omega) (Nat.le_refl _) (fun j h1 h2 => by omega)
  refine ⟨r, hr, h.congr fun k => ?_⟩
  unfold mask_Clear.f
  rw [e, dv hf]

theorem shr_n {w : Int} {p : Nat} (hp : p < 64) : shr .u64 w (p : Int) = w / 2 ^ p := by
  unfold shr; rw [show min ((p : Int).toNat) IntKind.u64.bits = p from Nat.min_eq_left (by show (p : Int).toNat ≤ 64; omega)]

theorem bit_and1 {w : Int} (hw : W w) {p : Nat} (hp : p < 64) : (Go.bits .and .u64 (shr .u64 w (p : Int)) 1 == 1) = tb w p := by
  have hs := W_shr (n := (p : Int)) hw
  have := and_mask hs (n := 1) (by omega)
  rw [show (2 : Int) ^ 1 - 1 = 1 by rfl, show (2 : Int) ^ 1 = 2 by rfl] at this
  rw [this, shr_n hp, Bool.eq_iff_iff, beq_iff_eq]
  exact bi_one hw.1 p

def memI (l : List Int) (a : Int) : Bool := if 0 ≤ a then mem l a.toNat else false

theorem has_eq {l : List Int} (hl : AllW l) (hn : l.length ≤ 100000) {a : Int} (ha : a < 9223372036854775808) : mask_Has.f l a = some (memI l a) := by
  unfold mask_Has.f memI
  by_cases h : 0 ≤ a
  · obtain ⟨n, rfl⟩ := Int.eq_ofNat_of_zero_le h
    refine itp h ?_
    rw [if_pos h, dv (by omega), md, rdn, Int.toNat_natCast]
    by_cases hc : n / 64 < l.length
    · exact itp (by omega) (itp (by omega) (itp (by omega) (by rw [bit_and1 (hl.getD _) (by omega)]; rfl)))
    · rw [mem_high (by omega)]; exact itn (by omega) rfl
  · refine itn h ?_
    rw [if_neg h]

theorem hasn {l : List Int} (hl : AllW l) (hn : l.length ≤ 100000) {n : Nat} (ha : n < 9223372036854775808) : mask_Has.f l (n : Int) = some (mem l n) := by
  rw [has_eq hl hn (by omega)]; unfold memI; rw [if_pos (by omega)]; rfl

/-! The first room. -/
theorem fit_go {l : List Int} (hl : AllW l) (hn : l.length ≤ 100000) {n : Int} (hn1 : 1 ≤ n) (hn2 : n < 9223372036854775808) : ∀ d : Nat, ∀ x : Int, ∀ t : Nat, NextR (fun j => !mem l j) (64 * l.length) t x → 64 * l.length ≤ t + d → t ≤ 64 * l.length → (∀ b, b < t → ¬ Free (mem l) (64 * l.length) n.toNat b) →
    ∃ r, FitR (mem l) (64 * l.length) n.toNat r ∧ Eo (fun k => mask_Fit.l0 k l n ((64 * l.length : Nat) : Int) x) r := by
  intro d
  induction d with
  | zero =>
    intro x t hx ht ht2 hb
    obtain rfl : x = -1 := by
      rcases hx with ⟨k, h1, h2, _⟩ | ⟨_, h⟩
      · omega
      · exact h
    refine ⟨-1, .inr ⟨fun b hf => ?_, rfl⟩, (Eo.of (g := fun _ => some (-1 : Int)) fun _ => rfl).round fun k => ?_⟩
    · by_cases hbt : b < t
      · exact hb b hbt hf
      · have := hf.1; omega
    · rw [mask_Fit.l0]; exact itn (by omega) rfl
  | succ d ih =>
    intro x t hx ht ht2 hb
    rcases hx with ⟨f, h1, h2, h3, h4, rfl⟩ | ⟨h1, rfl⟩
    · have h3' : mem l f = false := by simpa using h3
      have h4' : ∀ j, t ≤ j → j < f → mem l j = true := fun j g1 g2 => by simpa using h4 j g1 g2
      have hbf : ∀ b, b < f → ¬ Free (mem l) (64 * l.length) n.toNat b := by
        intro b hbf hf
        by_cases hbt : b < t
        · exact hb b hbt hf
        · have := hf.2 0 (by omega)
          rw [Nat.add_zero, h4' b (by omega) hbf] at this
          cases this
      obtain ⟨u, hu, K1, hK1⟩ := next_eo hl hn (a := (f : Int)) (by omega)
      rw [Int.toNat_natCast] at hu
      -- the end of the gap
      have gap : ∀ m : Nat, f < m → m ≤ 64 * l.length → (∀ j, f ≤ j → j < m → mem l j = false) → (m = 64 * l.length ∨ mem l m = true) →
          (Free (mem l) (64 * l.length) n.toNat f ↔ (n : Int) ≤ (m : Int) - f) ∧ (¬ Free (mem l) (64 * l.length) n.toNat f → ∀ b, b < m → ¬ Free (mem l) (64 * l.length) n.toNat b) := by
        intro m g1 g2 g3 g4
        refine ⟨⟨fun hf => ?_, fun hle => ⟨by omega, fun j hj => g3 _ (by omega) (by omega)⟩⟩, fun hnf b hbm hf => ?_⟩
        · have := hf.1
          rcases g4 with g4 | g4
          · omega
          · by_cases hlt : n.toNat ≤ m - f
            · omega
            · have := hf.2 (m - f) (by omega)
              rw [show f + (m - f) = m by omega, g4] at this; cases this
        · by_cases hbf2 : b < f
          · exact hbf b hbf2 hf
          · have hf1 := hf.1
            have : n.toNat ≤ m - b := by
              rcases g4 with g4 | g4
              · omega
              · by_cases hlt : n.toNat ≤ m - b
                · exact hlt
                · have := hf.2 (m - b) (by omega)
                  rw [show b + (m - b) = m by omega, g4] at this; cases this
            exact hnf ⟨by omega, fun j hj => g3 _ (by omega) (by omega)⟩
      rcases hu with ⟨m, g1, g2, g3, g4, rfl⟩ | ⟨g1, rfl⟩
      · have hfm : f < m := by
          by_cases e : f = m
          · subst e; rw [h3'] at g3; cases g3
          · omega
        obtain ⟨q1, q2⟩ := gap m hfm (by omega) g4 (.inr g3)
        by_cases hF : Free (mem l) (64 * l.length) n.toNat f
        · refine ⟨f, .inl ⟨f, hF, hbf, rfl⟩, K1 + 1, fun k hk => ?_⟩
          obtain ⟨q, rfl⟩ : ∃ q, k = q + 1 := ⟨k - 1, by omega⟩
          show mask_Fit.l0 (q + 1) l n _ (f : Int) = _
          rw [mask_Fit.l0]
          refine itp (by omega) (bnd (hK1 q (by omega)) (itn (by omega) ?_))
          rw [w64 (by omega) (by omega)]
          exact itp (q1.mp hF) rfl
        · obtain ⟨c, hc, K2, hK2⟩ := clear_eo hl hn (a := (m : Int)) (by omega)
          rw [Int.toNat_natCast] at hc
          obtain ⟨r, hr, K3, hK3⟩ := ih c m hc (by omega) (by omega) (q2 hF)
          refine ⟨r, hr, K1 + K2 + K3 + 1, fun k hk => ?_⟩
          obtain ⟨q, rfl⟩ : ∃ q, k = q + 1 := ⟨k - 1, by omega⟩
          show mask_Fit.l0 (q + 1) l n _ (f : Int) = _
          rw [mask_Fit.l0]
          refine itp (by omega) (bnd (hK1 q (by omega)) (itn (by omega) ?_))
          rw [w64 (by omega) (by omega)]
          exact itn (fun z => hF (q1.mpr z)) (bnd (hK2 q (by omega)) (hK3 q (by omega)))
      · obtain ⟨q1, q2⟩ := gap (64 * l.length) h2 (Nat.le_refl _) g1 (.inl rfl)
        by_cases hF : Free (mem l) (64 * l.length) n.toNat f
        · refine ⟨f, .inl ⟨f, hF, hbf, rfl⟩, K1 + 1, fun k hk => ?_⟩
          obtain ⟨q, rfl⟩ : ∃ q, k = q + 1 := ⟨k - 1, by omega⟩
          show mask_Fit.l0 (q + 1) l n _ (f : Int) = _
          rw [mask_Fit.l0]
          refine itp (by omega) (bnd (hK1 q (by omega)) (itp (by omega) ?_))
          rw [w64 (by omega) (by omega)]
          exact itp (q1.mp hF) rfl
        · obtain ⟨c, hc, K2, hK2⟩ := clear_eo hl hn (a := ((64 * l.length : Nat) : Int)) (by omega)
          rw [Int.toNat_natCast] at hc
          obtain ⟨r, hr, K3, hK3⟩ := ih c (64 * l.length) hc (by omega) (by omega) (q2 hF)
          refine ⟨r, hr, K1 + K2 + K3 + 1, fun k hk => ?_⟩
          obtain ⟨q, rfl⟩ : ∃ q, k = q + 1 := ⟨k - 1, by omega⟩
          show mask_Fit.l0 (q + 1) l n _ (f : Int) = _
          rw [mask_Fit.l0]
          refine itp (by omega) (bnd (hK1 q (by omega)) (itp (by omega) ?_))
          rw [w64 (by omega) (by omega)]
          exact itn (fun z => hF (q1.mpr z)) (bnd (hK2 q (by omega)) (hK3 q (by omega)))
    · refine ⟨-1, .inr ⟨fun b hf => ?_, rfl⟩, (Eo.of (g := fun _ => some (-1 : Int)) fun _ => rfl).round fun k => ?_⟩
      · by_cases hbt : b < t
        · exact hb b hbt hf
        · have g1 := hf.2 0 (by omega)
          have g2 := hf.1
          have g3 : (!mem l b) = false := h1 b (by omega) (by omega)
          rw [Nat.add_zero] at g1
          rw [g1] at g3; cases g3
      · rw [mask_Fit.l0]; exact itn (by omega) rfl

theorem fit_eo {l : List Int} (hl : AllW l) (hn : l.length ≤ 100000) {n : Int} (hn1 : 1 ≤ n) (hn2 : n < 9223372036854775808) : ∃ r, FitR (mem l) (64 * l.length) n.toNat r ∧ Eo (fun k => mask_Fit.f k l n) r := by
  obtain ⟨c, hc, K2, hK2⟩ := clear_eo hl hn (a := 0) (by omega)
  obtain ⟨r, hr, K3, hK3⟩ := fit_go hl hn hn1 hn2 (64 * l.length) c 0 hc (by omega) (by omega) (fun b hb => by omega)
  refine ⟨r, hr, K2 + K3, fun k hk => ?_⟩
  show mask_Fit.f k l n = _
  unfold mask_Fit.f
  rw [w64 (x := (l.length : Int) * 64) (by omega) (by omega), show (l.length : Int) * 64 = ((64 * l.length : Nat) : Int) by omega]
  exact itn (by omega) (bnd (hK2 k (by omega)) (hK3 k (by omega)))

end Go.Proofs.YticoepbjpeepcaaDoor.Mk

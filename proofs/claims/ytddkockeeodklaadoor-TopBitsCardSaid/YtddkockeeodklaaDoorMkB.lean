/- The next place, the next number that is none, the first room: the program's and the chapter's. -/
import Derived.Test.YtddkockeeodklaaDoorMkA
import Derived.Test.YtddkockeeodklaaDoorWpC
import Derived.Test.YtddkockeeodklaaDoorWpD
namespace Go.Proofs.YtddkockeeodklaaDoor.Mk
open Go Go.RowKit Go.Proofs.YtddkockeeodklaaDoor.PAll Go.Proofs.YtddkockeeodklaaDoorW.PrintWords Go.Proofs.YtddkockeeodklaaDoorW.PrintLast Go.Proofs.YtddkockeeodklaaDoorW.PrintMore
open Go.Proofs.YtddkockeeodklaaDoor.Eo Go.Proofs.YtddkockeeodklaaDoor.Wd Go.Proofs.YtddkockeeodklaaDoor.Bt Go.Proofs.YtddkockeeodklaaDoor.Wp
set_option linter.unusedVariables false
set_option linter.unusedSimpArgs false
set_option linter.unusedSectionVars false

theorem umax : IntKind.u64.max = 18446744073709551615 := rfl

theorem mono_all {α : Type} {f : Nat → Option α} (hm : ∀ k, LeO (f k) (f (k + 1))) {K : Nat} {r : α} (h : f K = some r) : Eo f r := by
  refine ⟨K, fun k hk => ?_⟩
  obtain ⟨d, rfl⟩ : ∃ d, k = K + d := ⟨k - K, by omega⟩
  clear hk
  induction d with
  | zero => exact h
  | succ d ih => exact hm _ _ ih

theorem wfAll {l : List Int} (h : ∀ x ∈ l, (Lit.int .u64 x).wf = true) : AllW l := fun x hx => wfW (h x hx)

/-- A word that holds what stands at 64 numbers. -/
theorem word_case {P : Nat → Bool} {e : Nat} {w : Int} (hw : W w) {f i : Nat} (hi : 64 * i + 64 ≤ e) (hb : ∀ j, f ≤ j → j < 64 * i → P j = false)
    (ht : ∀ p, p < 64 → tb w p = (P (64 * i + p) && decide (f ≤ 64 * i + p))) :
    (w = 0 ∧ ∀ j, f ≤ j → j < 64 * (i + 1) → P j = false) ∨ (w ≠ 0 ∧ ∃ k : Nat, k < 64 ∧ tz w = k ∧ NextR P e f ((64 * i + k : Nat) : Int)) := by
  by_cases h0 : w = 0
  · refine .inl ⟨h0, fun j h1 h2 => ?_⟩
    by_cases hj : j < 64 * i
    · exact hb j h1 hj
    · have := ht (j - 64 * i) (by omega)
      rw [h0, tb_zero, show 64 * i + (j - 64 * i) = j by omega, decide_eq_true h1, Bool.and_true] at this
      exact this.symm
  · obtain ⟨k, hk, hl⟩ := low_exists hw h0
    refine .inr ⟨h0, k, hk, tz_low hw hk hl, .inl ⟨64 * i + k, ?_, by omega, ?_, fun j h1 h2 => ?_, rfl⟩⟩
    · have := ht k hk
      rw [hl.1] at this
      have := (Bool.and_eq_true _ _ ▸ this.symm : P (64 * i + k) = true ∧ decide (f ≤ 64 * i + k) = true)
      exact of_decide_eq_true this.2
    · have := ht k hk
      rw [hl.1] at this
      have := (Bool.and_eq_true _ _ ▸ this.symm : P (64 * i + k) = true ∧ decide (f ≤ 64 * i + k) = true)
      exact this.1
    · by_cases hj : j < 64 * i
      · exact hb j h1 hj
      · have := ht (j - 64 * i) (by omega)
        rw [hl.2 _ (by omega), show 64 * i + (j - 64 * i) = j by omega, decide_eq_true h1, Bool.and_true] at this
        exact this.symm

theorem mask_lit {n : Nat} (hn : n < 64) : word_Mask.f (n : Int) = some (2 ^ n - 1) := mask_eq (by omega)

theorem next_go {l : List Int} (hl : AllW l) (hn : l.length ≤ 100000) {f : Nat} (hf : f < 9223372036854775808) : ∀ d i : Nat, l.length ≤ i + d → i < 9223372036854775807 → f / 64 ≤ i → (∀ j, f ≤ j → j < 64 * i → mem l j = false) →
    ∃ r, NextR (mem l) (64 * l.length) f r ∧ Eo (fun k => mask_Next.l0 k l (f : Int) (i : Int)) r := by
  have stop : ∀ i : Nat, l.length ≤ i → (∀ j, f ≤ j → j < 64 * i → mem l j = false) → ∃ r, NextR (mem l) (64 * l.length) f r ∧ Eo (fun k => mask_Next.l0 k l (f : Int) (i : Int)) r := by
    intro i hi hb
    refine ⟨-1, .inr ⟨fun j h1 h2 => hb j h1 (by omega), rfl⟩, (Eo.of (g := fun _ => some (-1 : Int)) fun _ => rfl).round fun k => ?_⟩
    rw [mask_Next.l0]; exact itn (by omega) rfl
  intro d
  induction d with
  | zero => intro i hi _ _ hb; exact stop i (by omega) hb
  | succ d ih =>
    intro i hi hi2 hfi hb
    by_cases hil : l.length ≤ i
    · exact stop i hil hb
    · have hw := hl.getD i
      by_cases hc : i = f / 64
      · have hm := W_mask (n := f % 64) (by omega)
        have ht : ∀ p, p < 64 → tb (Go.bits .andNot .u64 (l.getD i 0) (2 ^ (f % 64) - 1)) p = (mem l (64 * i + p) && decide (f ≤ 64 * i + p)) := by
          intro p hp
          rw [tb_andNot hw hm, tb_mask, mem_at l hp]
          congr 1
          rw [Bool.eq_iff_iff]; simp; omega
        rcases word_case (e := 64 * l.length) (W_andNot hw hm) (by omega) hb ht with ⟨h0, hb2⟩ | ⟨h0, q, hq, e, hN⟩
        · obtain ⟨r, hr, h⟩ := ih (i + 1) (by omega) (by omega) (by omega) hb2
          refine ⟨r, hr, h.round fun k => ?_⟩
          rw [mask_Next.l0, dv hf, md, rdn, w64 (x := (i : Int) + 1) (by omega) (by omega)]
          exact itp (by omega) (itp (by omega) (itp (by omega) (bnd (mask_lit (by omega)) (itp h0 rfl))))
        · refine ⟨_, hN, (Eo.of (g := fun _ => some (((64 * i + q : Nat) : Int))) fun _ => rfl).round fun k => ?_⟩
          rw [mask_Next.l0, dv hf, md, rdn, w64 (x := (i : Int) * 64) (by omega) (by omega)]
          refine itp (by omega) (itp (by omega) (itp (by omega) (bnd (mask_lit (by omega)) (itn h0 (bnd (lowest_eq (W_andNot hw hm)) ?_)))))
          rw [e, w64 (by omega) (by omega)]; congr 1; omega
      · have ht : ∀ p, p < 64 → tb (l.getD i 0) p = (mem l (64 * i + p) && decide (f ≤ 64 * i + p)) := by
          intro p hp
          rw [mem_at l hp, decide_eq_true (by omega), Bool.and_true]
        rcases word_case (e := 64 * l.length) hw (by omega) hb ht with ⟨h0, hb2⟩ | ⟨h0, q, hq, e, hN⟩
        · obtain ⟨r, hr, h⟩ := ih (i + 1) (by omega) (by omega) (by omega) hb2
          refine ⟨r, hr, h.round fun k => ?_⟩
          rw [mask_Next.l0, dv hf, rdn, w64 (x := (i : Int) + 1) (by omega) (by omega)]
          exact itp (by omega) (itp (by omega) (itn (by omega) (itp h0 rfl)))
        · refine ⟨_, hN, (Eo.of (g := fun _ => some (((64 * i + q : Nat) : Int))) fun _ => rfl).round fun k => ?_⟩
          rw [mask_Next.l0, dv hf, rdn, w64 (x := (i : Int) * 64) (by omega) (by omega)]
          refine itp (by omega) (itp (by omega) (itn (by omega) (itn h0 (bnd (lowest_eq hw) ?_))))
          rw [e, w64 (by omega) (by omega)]; congr 1; omega

theorem mx0 {a : Int} (h : a < 9223372036854775808) : ∃ f : Nat, mx a 0 = f ∧ f < 9223372036854775808 ∧ f = a.toNat := by
  refine ⟨a.toNat, ?_, by omega, rfl⟩
  unfold mx; split <;> omega

theorem next_eo {l : List Int} (hl : AllW l) (hn : l.length ≤ 100000) {a : Int} (ha : a < 9223372036854775808) : ∃ r, NextR (mem l) (64 * l.length) a.toNat r ∧ Eo (fun k => mask_Next.f k l a) r := by
  obtain ⟨f, e, hf, rfl⟩ := mx0 ha
  obtain ⟨r, hr, h⟩ := next_go hl hn hf l.length (a.toNat / 64) (by omega) (by omega) (Nat.le_refl _) (fun j h1 h2 => by omega)
  refine ⟨r, hr, h.congr fun k => ?_⟩
  unfold mask_Next.f
  rw [e, dv hf]

theorem shr_n {w : Int} {p : Nat} (hp : p < 64) : shr .u64 w (p : Int) = w / 2 ^ p := by
  unfold shr; rw [show min ((p : Int).toNat) IntKind.u64.bits = p from Nat.min_eq_left (by show (p : Int).toNat ≤ 64; omega)]

theorem bit_and1 {w : Int} (hw : W w) {p : Nat} (hp : p < 64) : (Go.bits .and .u64 (shr .u64 w (p : Int)) 1 == 1) = tb w p := by
  have hs := W_shr (n := (p : Int)) hw
  have := and_mask hs (n := 1) (by omega)
  rw [show (2 : Int) ^ 1 - 1 = 1 by rfl, show (2 : Int) ^ 1 = 2 by rfl] at this
  rw [this, shr_n hp, Bool.eq_iff_iff, beq_iff_eq]
  exact bi_one hw.1 p

def memI (l : List Int) (a : Int) : Bool := if 0 ≤ a then mem l a.toNat else false

theorem has_eq {l : List Int} (hl : AllW l) (hn : l.length ≤ 100000) {a : Int} (ha : a < 9223372036854775808) : mask_Has.f l a = some (memI l a) := by
  unfold mask_Has.f memI
  by_cases h : 0 ≤ a
  · obtain ⟨n, rfl⟩ := Int.eq_ofNat_of_zero_le h
    refine itp h ?_
    rw [if_pos h, dv (by omega), md, rdn, Int.toNat_natCast]
    by_cases hc : n / 64 < l.length
    · exact itp (by omega) (itp (by omega) (itp (by omega) (by rw [bit_and1 (hl.getD _) (by omega)]; rfl)))
    · rw [mem_high (by omega)]; exact itn (by omega) rfl
  · refine itn h ?_
    rw [if_neg h]

theorem hasn {l : List Int} (hl : AllW l) (hn : l.length ≤ 100000) {n : Nat} (ha : n < 9223372036854775808) : mask_Has.f l (n : Int) = some (mem l n) := by
  rw [has_eq hl hn (by omega)]; unfold memI; rw [if_pos (by omega)]; rfl

/-! The first room. -/
end Go.Proofs.YtddkockeeodklaaDoor.Mk

/- The ward of the word laws; words turned; in plain numbers. -/
import Derived.Test.YtahmhhbpdgopjaaDoorWpA
import Derived.KernelRfl
namespace Go.Proofs.YtahmhhbpdgopjaaDoor.Wp
open Go.RowKit Go.Proofs.YtahmhhbpdgopjaaDoor.PAll Go.Proofs.YtahmhhbpdgopjaaDoorW.PrintWords Go.Proofs.YtahmhhbpdgopjaaDoorW.PrintLast Go.Proofs.YtahmhhbpdgopjaaDoorW.PrintMore
open Go.Proofs.YtahmhhbpdgopjaaDoor.Eo Go.Proofs.YtahmhhbpdgopjaaDoor.Wd Go.Proofs.YtahmhhbpdgopjaaDoor.Bt
set_option linter.unusedVariables false
set_option linter.unusedSimpArgs false

theorem worded_eq (k : Nat) : windrowlaw01_worded.f (k + 2) = some true := by
  have h1 : word_Put.f 0 4 4 15 = some (240, 0) := by kernel_rfl
  have h2 : word_Gap.f (k + 2) 9 2 = some 1 := by kernel_rfl
  unfold windrowlaw01_worded.f
  exact bnd h1 (bnd h2 (itp rfl (itp rfl (itp rfl rfl))))

theorem worded_eo : Eo (fun k => windrowlaw01_worded.f k) true :=
  ⟨2, fun k hk => by obtain ⟨m, rfl⟩ : ∃ m, k = m + 2 := ⟨k - 2, by omega⟩; exact worded_eq m⟩

/-! ### words turned -/
def turnW (w : Int) (s : Nat) : Int := Go.bits .or .u64 (shl .u64 w s) (shr .u64 w (64 - (s : Int)))

theorem turnW_W {w : Int} (hw : W w) (s : Nat) : W (turnW w s) := W_or (W_shl _ _) (W_shr hw)

theorem turnW_tb {w : Int} (hw : W w) {s i : Nat} (hs : s < 64) (hi : i < 64) : tb (turnW w s) i = tb w ((i + (64 - s)) % 64) := by
  unfold turnW
  rw [tb_or (W_shl _ _) (W_shr hw), tb_shl hw (by omega), tb_shr hw (by omega), decide_eq_true hi]
  rw [show ((s : Int)).toNat = s by omega, show (64 - (s : Int)).toNat = 64 - s by omega]
  by_cases h : s ≤ i
  · rw [decide_eq_true (p := (s : Int) ≤ i) (by omega), tb_high hw (i := i + (64 - s)) (by omega), show (i + (64 - s)) % 64 = i - s by omega]; simp
  · rw [decide_eq_false (p := (s : Int) ≤ i) (by omega), show (i + (64 - s)) % 64 = i + (64 - s) by omega]; simp

theorem tmod64 (a : Int) : Int.tmod a 64 % 64 = a % 64 ∧ -64 < Int.tmod a 64 ∧ Int.tmod a 64 < 64 := by
  have h1 := Int.mul_tdiv_add_tmod a 64
  have h2 : Int.tmod a 64 < 64 := Int.tmod_lt_of_pos a (by omega)
  have h3 : -64 < Int.tmod a 64 := by
    have := Int.lt_tmod_of_pos a (b := 64) (by omega)
    omega
  generalize Int.tmod a 64 = t at *
  generalize Int.tdiv a 64 = q at *
  omega

theorem rot_eq (w b : Int) : bits_RotateLeft64.f w b = some (turnW w (b % 64).toNat) := by
  have e1 : Go.bits .and .u64 (IntKind.u64.wrap b) 63 = (((b % 64).toNat : Nat) : Int) := by
    have := and_mask (W_wrap b) (n := 6) (by omega)
    rw [show (2 : Int) ^ 6 - 1 = 63 by rfl, show (2 : Int) ^ 6 = 64 by rfl] at this
    rw [this, u64w]; omega
  unfold bits_RotateLeft64.f
  rw [e1]
  have hs : (b % 64).toNat < 64 := by omega
  generalize (b % 64).toNat = s at *
  clear e1
  rw [u64i (x := 64 - (s : Int)) (by omega) (by omega)]
  exact itp (by omega) (itp (by omega) rfl)

theorem turn_eq (w a : Int) : word_Turn.f w a = some (turnW w (a % 64).toNat) := by
  unfold word_Turn.f
  rw [rot_eq, (tmod64 a).1]; rfl

theorem rturn_go {w : Int} (hw : W w) {s : Nat} (hs : s < 64) : ∀ d j : Nat, j + d = 64 → ∀ x, W x → (∀ i, i < 64 → tb x i = (decide ((i + (64 - s)) % 64 < j) && tb w ((i + (64 - s)) % 64))) →
    Eo (fun k => windrowref01_Turn.l0 k w (s : Int) x (j : Int)) (turnW w s) := by
  intro d
  induction d with
  | zero =>
    intro j hj x hx hb
    obtain rfl : j = 64 := by omega
    refine Eo.step (g := fun _ => some (turnW w s)) (Eo.of fun _ => rfl) fun k _ => ?_
    rw [windrowref01_Turn.l0]
    refine itn (by omega) ?_
    have e : x = turnW w s := ext hx (turnW_W hw s) fun i hi => by rw [hb i hi, turnW_tb hw hs hi, decide_eq_true (by omega)]; rfl
    rw [e]
  | succ d ih =>
    intro j hj x hx hb
    have hp : (j + s) % 64 < 64 := by omega
    have src : ((j + s) % 64 + (64 - s)) % 64 = j := by omega
    have hx' : tb x ((j + s) % 64) = false := by rw [hb _ hp, src, decide_eq_false (by omega)]; rfl
    obtain ⟨g1, g2⟩ := addref hx hw (p := (j + s) % 64) (s := j) hp hx' rfl rfl
    obtain ⟨K1, h1⟩ := bit_eo hw j (by omega)
    obtain ⟨K2, h2⟩ := power_eo ((j + s) % 64) hp
    obtain ⟨K3, h3⟩ := ih (j + 1) (by omega) _ g1 (fun i hi => by
      rw [g2, hb i hi]
      by_cases e : i = (j + s) % 64
      · rw [decide_eq_true e]
        have : (i + (64 - s)) % 64 = j := by rw [e, src]
        rw [this]; simp
      · rw [decide_eq_false e]
        have ne : (i + (64 - s)) % 64 ≠ j := by omega
        by_cases h : (i + (64 - s)) % 64 < j
        · rw [decide_eq_true h, decide_eq_true (p := (i + (64 - s)) % 64 < j + 1) (by omega)]; simp
        · rw [decide_eq_false h, decide_eq_false (p := (i + (64 - s)) % 64 < j + 1) (by omega)]; simp)
    refine ⟨K1 + K2 + K3 + 1, fun k hk => ?_⟩
    obtain ⟨m, rfl⟩ : ∃ m, k = m + 1 := ⟨k - 1, by omega⟩
    show windrowref01_Turn.l0 (m + 1) w s x j = _
    rw [windrowref01_Turn.l0, w64 (x := (j : Int) + s) (by omega) (by omega), w64 (x := (j : Int) + 1) (by omega) (by omega), tm (a := (j : Int) + s) (by omega)]
    have e := h2 m (by omega)
    rw [show (((j + s) % 64 : Nat) : Int) = ((j : Int) + (s : Int)) % 64 by omega] at e
    exact itp (by omega) (bnd (h1 m (by omega)) (bnd e (h3 m (by omega))))

theorem rturn_eo {w : Int} (hw : W w) (a : Int) : Eo (fun k => windrowref01_Turn.f k w a) (turnW w (a % 64).toNat) := by
  obtain ⟨t1, t2, t3⟩ := tmod64 a
  have hs : (a % 64).toNat < 64 := by omega
  have g := rturn_go hw hs 64 0 (by omega) 0 W_zero (fun i hi => by rw [tb_zero]; simp)
  refine (g.step (f := fun k => windrowref01_Turn.j0 k w (((a % 64).toNat : Nat) : Int)) fun k hk => by rw [windrowref01_Turn.j0]; exact hk).congr fun k => ?_
  show windrowref01_Turn.f k w a = _
  unfold windrowref01_Turn.f
  by_cases h : Int.tmod a 64 < 0
  · refine itp h ?_
    rw [w64 (by omega) (by omega), show Int.tmod a 64 + 64 = (((a % 64).toNat : Nat) : Int) by omega]
  · refine itn h ?_
    rw [show Int.tmod a 64 = (((a % 64).toNat : Nat) : Int) by omega]

theorem turn_turn {w : Int} (hw : W w) {s t : Nat} (hs : s < 64) (ht : t < 64) : turnW (turnW w s) t = turnW w ((s + t) % 64) :=
  ext (turnW_W (turnW_W hw s) t) (turnW_W hw _) fun i hi => by
    rw [turnW_tb (turnW_W hw s) ht hi, turnW_tb hw hs (by omega), turnW_tb hw (by omega) hi]
    congr 1; omega

theorem turn_zero {w : Int} (hw : W w) : turnW w 0 = w :=
  ext (turnW_W hw 0) hw fun i hi => by
    rw [turnW_tb hw (by omega) hi]
    congr 1; omega
end Go.Proofs.YtahmhhbpdgopjaaDoor.Wp

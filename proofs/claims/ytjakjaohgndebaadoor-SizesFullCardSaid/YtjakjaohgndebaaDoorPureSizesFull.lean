/- Cells that are taken one by one, the first free one each time, are all cells, rising; then there is no room. For whatever class and bits. -/
import Derived.Test.YtjakjaohgndebaaDoorSzB
namespace Go.Proofs.YtjakjaohgndebaaDoor.Pure
open Go Go.RowKit Go.Proofs.YtjakjaohgndebaaDoor.PAll Go.Proofs.YtjakjaohgndebaaDoorW.PrintWords Go.Proofs.YtjakjaohgndebaaDoorW.PrintLast Go.Proofs.YtjakjaohgndebaaDoorW.PrintMore
open Go.Proofs.YtjakjaohgndebaaDoor.Eo Go.Proofs.YtjakjaohgndebaaDoor.Wd Go.Proofs.YtjakjaohgndebaaDoor.Bt Go.Proofs.YtjakjaohgndebaaDoor.Wp Go.Proofs.YtjakjaohgndebaaDoor.Sz
set_option linter.unusedVariables false
set_option linter.unusedSimpArgs false

theorem cnt_succ (q : Nat → Bool) (n : Nat) {b : Bool} (h : q n = b) : cnt q (n + 1) = cnt q n + (if b = true then 1 else 0) := by subst h; rfl

theorem cnt_none {p : Nat → Bool} {n : Nat} (h : ∀ i, i < n → p i = false) : cnt p n = 0 := by
  induction n with
  | zero => rfl
  | succ n ih => rw [cnt_succ p n (h n (by omega)), ih fun i hi => h i (by omega)]; rfl

theorem cnt_zero' {p : Nat → Bool} {n : Nat} (h : cnt p n = 0) : ∀ i, i < n → p i = false := by
  induction n with
  | zero => intro i hi; omega
  | succ n ih =>
    rw [cnt_succ p n rfl] at h
    intro i hi
    by_cases hin : i < n
    · exact ih (by omega) i hin
    · obtain rfl : i = n := by omega
      cases hp : p i
      · rfl
      · rw [hp] at h; simp at h

theorem cnt_less_one (p : Nat → Bool) {a : Nat} (hp : p a = true) : ∀ n, a < n → cnt (fun i => p i && !decide (i = a)) n + 1 = cnt p n := by
  intro n
  induction n with
  | zero => intro h; omega
  | succ n ih =>
    intro h
    by_cases e : a = n
    · subst e
      have e1 : cnt (fun i => p i && !decide (i = a)) a = cnt p a := cnt_congr fun i hi => by rw [decide_eq_false (by omega)]; simp
      rw [cnt_succ _ a (b := false) (by simp), cnt_succ p a hp, e1]
      simp
    · have := ih (by omega)
      rw [cnt_succ _ n (b := p n) (by simp [show ¬ n = a from fun z => e z.symm]), cnt_succ p n rfl]
      omega

theorem shr_n {w : Int} {p : Nat} (hp : p < 64) : shr .u64 w (p : Int) = w / 2 ^ p := by
  unfold shr; rw [show min ((p : Int).toNat) IntKind.u64.bits = p from Nat.min_eq_left (by show (p : Int).toNat ≤ 64; omega)]

theorem bit_and1 {w : Int} (hw : W w) {p : Nat} (hp : p < 64) : Go.bits .and .u64 (shr .u64 w (p : Int)) 1 = 1 ↔ tb w p = true := by
  have hs := W_shr (n := (p : Int)) hw
  have := and_mask hs (n := 1) (by omega)
  rw [show (2 : Int) ^ 1 - 1 = 1 by rfl, show (2 : Int) ^ 1 = 2 by rfl] at this
  rw [this, shr_n hp]
  exact bi_one hw.1 p

theorem shl1 {n : Nat} (h : n < 64) : W (shl .u64 1 (n : Int)) ∧ ∀ i, i < 64 → tb (shl .u64 1 (n : Int)) i = decide (i = n) := by
  refine ⟨W_shl _ _, fun i hi => ?_⟩
  rw [tb_shl (by unfold W; omega) (by omega), decide_eq_true hi, Int.toNat_natCast, Bool.true_and]
  by_cases e : i = n
  · subst e; rw [Nat.sub_self, decide_eq_true (by omega), decide_eq_true rfl]; rfl
  · rw [decide_eq_false e]
    by_cases h2 : (n : Int) ≤ i
    · rw [decide_eq_true h2, Bool.true_and]
      obtain ⟨d, hd⟩ : ∃ d, i - n = d + 1 := ⟨i - n - 1, by omega⟩
      rw [hd]
      show Nat.testBit 1 (d + 1) = false
      rw [Nat.testBit_succ]; simp
    · rw [decide_eq_false h2]; rfl

theorem full_go {c : Int} (hc : 0 ≤ c ∧ c < 8) : ∀ d i : Nat, i + d = 64 → ∀ (x : Int) (m : Nat), W x → (∀ j, j < 64 → tb x j = true → tb (st c) j = true) → m ≤ 64 → (∀ j, j < m → tb (st c) j = true → tb x j = true) → ones (Go.bits .andNot .u64 (st c) x) ≤ d →
    Eo (fun k => windrowlaw05_SizesFull.l0 k c x (st c) ((m : Int) - 1) (i : Int)) true := by
  intro d
  induction d with
  | zero =>
    intro i hi x m hx hsub hm hlow hcount
    have hy := W_andNot (st_W hc) hx
    have hz : ∀ j, j < 64 → tb (Go.bits .andNot .u64 (st c) x) j = false := cnt_zero' (by unfold ones at hcount; omega)
    have hxe : x = st c := ext hx (st_W hc) fun j hj => by
      have := hz j hj
      rw [tb_andNot (st_W hc) hx] at this
      cases h1 : tb x j with
      | true => exact (hsub j hj h1).symm
      | false => rw [h1] at this; cases h2 : tb (st c) j <;> simp_all
    obtain ⟨r, hr, e⟩ := first_yes hc hx 0
    obtain rfl : r = -1 := by
      rcases hr with ⟨p, h1, h2, _⟩ | ⟨_, h⟩
      · rw [hz p h1] at h2; cases h2
      · exact h
    have h0 : ones (Go.bits .andNot .u64 (st c) x) = 0 := by omega
    refine (Eo.of (g := fun _ => some true) fun _ => rfl).round fun k => ?_
    rw [windrowlaw05_SizesFull.l0]
    exact itp (by omega) (bnd (room_yes hc hx) (bnd e (itp (by omega) (itp (by rw [h0]; rfl) (itp hxe rfl)))))
  | succ d ih =>
    intro i hi x m hx hsub hm hlow hcount
    have hy := W_andNot (st_W hc) hx
    obtain ⟨r, hr, e⟩ := first_yes hc hx 0
    rcases hr with ⟨p, h1, h2, _, h4, rfl⟩ | ⟨hz0, rfl⟩
    · have h2' := h2
      rw [tb_andNot (st_W hc) hx] at h2'
      have h3 : tb (st c) p = true ∧ tb x p = false := by
        cases a1 : tb (st c) p <;> cases a2 : tb x p <;> simp_all
      have hpm : m ≤ p := by
        by_cases h : p < m
        · have := hlow p h h3.1
          rw [h3.2] at this; cases this
        · omega
      have hpos : 1 ≤ ones (Go.bits .andNot .u64 (st c) x) := by
        by_cases h : ones (Go.bits .andNot .u64 (st c) x) = 0
        · rw [cnt_zero' h p h1] at h2; cases h2
        · omega
      obtain ⟨s1, s2⟩ := shl1 h1
      have hx' := W_or hx s1
      have ht' : ∀ j, j < 64 → tb (Go.bits .or .u64 x (shl .u64 1 (p : Int))) j = (tb x j || decide (j = p)) := fun j hj => by rw [tb_or hx s1, s2 j hj]
      have hval : sizes_Valid.f c x = some true := by
        unfold sizes_Valid.f
        refine bnd (starts_yes hc) (itp rfl ?_)
        have : Go.bits .andNot .u64 x (st c) = 0 := eq_zero_of (W_andNot hx (st_W hc)) fun j hj => by
          rw [tb_andNot hx (st_W hc)]
          cases h : tb x j with
          | false => rfl
          | true => rw [hsub j hj h]; rfl
        rw [this]; rfl
      have ih' := ih (i + 1) (by omega) (Go.bits .or .u64 x (shl .u64 1 (p : Int))) (p + 1) hx' (fun j hj h => by
          rw [ht' j hj] at h
          by_cases e : j = p
          · subst e; exact h3.1
          · rw [decide_eq_false e, Bool.or_false] at h; exact hsub j hj h) (by omega) (fun j hj h => by
          rw [ht' j (by omega)]
          by_cases e : j = p
          · rw [decide_eq_true e, Bool.or_true]
          · cases hxj : tb x j with
            | true => rfl
            | false =>
              exact absurd (by omega : (0 : Int) ≤ j) (h4 j (by omega) (by rw [tb_andNot (st_W hc) hx, h, hxj]; rfl))) (by
          have e1 : ones (Go.bits .andNot .u64 (st c) (Go.bits .or .u64 x (shl .u64 1 (p : Int)))) + 1 = ones (Go.bits .andNot .u64 (st c) x) := by
            unfold ones
            rw [cnt_congr (q := fun j => tb (Go.bits .andNot .u64 (st c) x) j && !decide (j = p)) (fun j hj => by
              rw [tb_andNot (st_W hc) hx', ht' j hj, tb_andNot (st_W hc) hx]
              cases tb (st c) j <;> cases tb x j <;> cases decide (j = p) <;> rfl)]
            exact cnt_less_one _ h2 64 h1
          omega)
      refine ih'.round fun k => ?_
      rw [windrowlaw05_SizesFull.l0, w64 (x := (i : Int) + 1) (by omega) (by omega)]
      refine itp (by omega) (bnd (room_yes hc hx) (bnd e (itn (by omega) (itn (by omega) (itn (by omega) (itn (by omega) (itp (by omega) (itn (by rw [bit_and1 hx h1, h3.2]; simp) (bnd hval (itp rfl ?_))))))))))
      rw [show ((p + 1 : Nat) : Int) - 1 = (p : Int) by omega]
      rfl
    · have hz : ∀ j, j < 64 → tb (Go.bits .andNot .u64 (st c) x) j = false := fun j hj => by
        cases h : tb (Go.bits .andNot .u64 (st c) x) j with
        | false => rfl
        | true => exact absurd (by omega : (0 : Int) ≤ j) (hz0 j hj h)
      have hxe : x = st c := ext hx (st_W hc) fun j hj => by
        have := hz j hj
        rw [tb_andNot (st_W hc) hx] at this
        cases h1 : tb x j with
        | true => exact (hsub j hj h1).symm
        | false => rw [h1] at this; cases h2 : tb (st c) j <;> simp_all
      have h0 : ones (Go.bits .andNot .u64 (st c) x) = 0 := cnt_none hz
      refine (Eo.of (g := fun _ => some true) fun _ => rfl).round fun k => ?_
      rw [windrowlaw05_SizesFull.l0]
      exact itp (by omega) (bnd (room_yes hc hx) (bnd e (itp (by omega) (itp (by rw [h0]; rfl) (itp hxe rfl)))))

theorem SizesFull : windrowlaw05_SizesFull.Pure := by
  intro a al _ hal
  replace hal := wfW hal
  obtain ⟨n, n1, n2, n3⟩ := red (m := 8) (by omega) (by omega) a
  have hc : 0 ≤ (n : Int) ∧ (n : Int) < 8 := ⟨by omega, n1⟩
  have hx := W_and hal (st_W hc)
  obtain ⟨K, hK⟩ := full_go hc 64 0 (by omega) (Go.bits .and .u64 al (st n)) 0 hx (fun j hj h => by
    rw [tb_and hal (st_W hc)] at h
    exact (Bool.and_eq_true _ _ ▸ h : tb al j = true ∧ tb (st n) j = true).2) (by omega) (fun j hj => by omega) (cnt_le _ _)
  refine ⟨K + 1, ?_⟩
  unfold windrowlaw05_SizesFull.f
  rw [n2]
  refine bnd (starts_yes hc) (bnd sized_eq (itp rfl ?_))
  show windrowlaw05_SizesFull.j0 (K + 1) (n : Int) al (st n) ((0 : Int) != 0) = some true
  rw [bne_self_eq_false, windrowlaw05_SizesFull.j0]
  exact itn (by simp) (hK K (Nat.le_refl _))
end Go.Proofs.YtjakjaohgndebaaDoor.Pure

/- The lowest one; gaps; in plain numbers. -/
import Derived.Test.YtahmhhbpdgopjaaDoorWpB
namespace Go.Proofs.YtahmhhbpdgopjaaDoor.Wp
open Go.RowKit Go.Proofs.YtahmhhbpdgopjaaDoor.PAll Go.Proofs.YtahmhhbpdgopjaaDoorW.PrintWords Go.Proofs.YtahmhhbpdgopjaaDoorW.PrintLast Go.Proofs.YtahmhhbpdgopjaaDoorW.PrintMore
open Go.Proofs.YtahmhhbpdgopjaaDoor.Eo Go.Proofs.YtahmhhbpdgopjaaDoor.Wd Go.Proofs.YtahmhhbpdgopjaaDoor.Bt
set_option linter.unusedVariables false
set_option linter.unusedSimpArgs false

theorem tz_table : ∀ k : Fin 64, tab.getD ((IntKind.u64.wrap ((2 : Int) ^ k.1 * 285870213051353865) / 288230376151711744).toNat) 0 = (k.1 : Int) := by decide +kernel

theorem tz_low {x : Int} (hx : W x) {k : Nat} (hk : k < 64) (hl : Low x k) : tz x = k := by
  unfold tz
  rw [if_neg (low_ne hl), and_neg hx hk hl]
  exact tz_table ⟨k, hk⟩

theorem lowest_eq {x : Int} (hx : W x) : word_Lowest.f x = some (tz x) := by
  unfold word_Lowest.f bits_TrailingZeros64.f
  rw [if_pos hx.1, if_pos hx.2]; rfl

/-! ### gaps -/
def Free (w : Int) (n i : Nat) : Prop := i + n ≤ 64 ∧ ∀ j, j < n → tb w (i + j) = false

/-- What both answer. -/
def GapR (w : Int) (n : Nat) (r : Int) : Prop := (∃ k : Nat, k < 64 ∧ r = k ∧ Free w n k ∧ ∀ i, i < k → ¬ Free w n i) ∨ (r = -1 ∧ ∀ i, ¬ Free w n i)

theorem gap_go {w : Int} (hw : W w) {n : Nat} (hn : 1 ≤ n) (hn64 : n ≤ 64) : ∀ d h : Nat, h + d = n → 1 ≤ h → ∀ x, W x → (∀ i, tb x i = true ↔ ∀ j, j < h → i + j < 64 ∧ tb w (i + j) = false) →
    ∃ r, GapR w n r ∧ Eo (fun k => word_Gap.l0 k (n : Int) x (h : Int)) r := by
  intro d
  induction d using Nat.strongRecOn with
  | ind d ih =>
    intro h hd h1 x hx hb
    by_cases hlt : h < n
    · have hs : mn (h : Int) (wrap64 ((n : Int) - h)) = ((min h (n - h) : Nat) : Int) := by
        rw [w64 (by omega) (by omega)]
        unfold mn
        split <;> omega
      obtain ⟨r, hr, K, hK⟩ := ih (n - (h + min h (n - h))) (by omega) (h + min h (n - h)) (by omega) (by omega) (Go.bits .and .u64 x (shr .u64 x ((min h (n - h) : Nat) : Int))) (W_and hx (W_shr hx)) (fun i => by
        rw [tb_and hx (W_shr hx), tb_shr hx (by omega), Int.toNat_natCast, Bool.and_eq_true, hb, hb]
        constructor
        · rintro ⟨a, b⟩ j hj
          by_cases e : j < h
          · exact a j e
          · have := b (j - min h (n - h)) (by omega)
            rw [show i + min h (n - h) + (j - min h (n - h)) = i + j by omega] at this
            exact this
        · intro a
          refine ⟨fun j hj => a j (by omega), fun j hj => ?_⟩
          have := a (min h (n - h) + j) (by omega)
          rw [show i + (min h (n - h) + j) = i + min h (n - h) + j by omega] at this
          exact this)
      refine ⟨r, hr, K + 1, fun k hk => ?_⟩
      obtain ⟨m, rfl⟩ : ∃ m, k = m + 1 := ⟨k - 1, by omega⟩
      show word_Gap.l0 (m + 1) n x h = _
      rw [word_Gap.l0, hs]
      have e := hK m (by omega)
      rw [show ((h + min h (n - h) : Nat) : Int) = (h : Int) + ((min h (n - h) : Nat) : Int) by omega] at e
      rw [w64 (x := (h : Int) + ((min h (n - h) : Nat) : Int)) (by omega) (by omega)]
      exact itp (by omega) (itp (by omega) e)
    · obtain rfl : h = n := by omega
      have fr : ∀ i, tb x i = true ↔ Free w h i := fun i => by
        rw [hb]
        constructor
        · intro a
          refine ⟨?_, fun j hj => (a j hj).2⟩
          have := (a (h - 1) (by omega)).1; omega
        · rintro ⟨a, b⟩ j hj
          exact ⟨by omega, b j hj⟩
      by_cases h0 : x = 0
      · refine ⟨-1, .inr ⟨rfl, fun i f => ?_⟩, ⟨1, fun k hk => ?_⟩⟩
        · have := (fr i).mpr f; rw [h0, tb_zero] at this; cases this
        · obtain ⟨m, rfl⟩ : ∃ m, k = m + 1 := ⟨k - 1, by omega⟩
          show word_Gap.l0 (m + 1) h x h = _
          rw [word_Gap.l0]
          exact itn (by omega) (itp h0 rfl)
      · obtain ⟨k, hk, hl⟩ := low_exists hx h0
        refine ⟨k, .inl ⟨k, hk, rfl, (fr k).mp hl.1, fun i hi f => ?_⟩, ⟨1, fun q hq => ?_⟩⟩
        · have := (fr i).mpr f; rw [hl.2 i hi] at this; cases this
        · obtain ⟨m, rfl⟩ : ∃ m, q = m + 1 := ⟨q - 1, by omega⟩
          show word_Gap.l0 (m + 1) h x h = _
          rw [word_Gap.l0]
          exact itn (by omega) (itn h0 (bnd ((lowest_eq hx).trans (congrArg some (tz_low hx hk hl))) rfl))

theorem gap_eo {w : Int} (hw : W w) {n : Nat} (hn : 1 ≤ n) (hn64 : n ≤ 64) : ∃ r, GapR w n r ∧ Eo (fun k => word_Gap.f k w (n : Int)) r := by
  obtain ⟨r, hr, he⟩ := gap_go hw hn hn64 (n - 1) 1 (by omega) (by omega) _ (W_xor W_ones hw) (fun i => by
    rw [tb_xor W_ones hw, tb_ones]
    constructor
    · intro a j hj
      obtain rfl : j = 0 := by omega
      by_cases h : i < 64
      · rw [decide_eq_true h] at a
        refine ⟨h, ?_⟩
        rw [Nat.add_zero]
        cases hh : tb w i with
        | true => rw [hh] at a; cases a
        | false => rfl
      · rw [decide_eq_false h, tb_high hw (by omega)] at a; cases a
    · intro a
      have := a 0 (by omega)
      rw [Nat.add_zero] at this
      rw [decide_eq_true this.1, this.2]; rfl)
  refine ⟨r, hr, he.congr fun k => ?_⟩
  show word_Gap.f k w n = _
  unfold word_Gap.f
  exact itn (by omega) (itn (by omega) rfl)

theorem gapR_unique {w : Int} {n : Nat} {r s : Int} (hr : GapR w n r) (hs : GapR w n s) : r = s := by
  rcases hr with ⟨k, _, rfl, f, a⟩ | ⟨rfl, a⟩
  · rcases hs with ⟨l, _, rfl, g, b⟩ | ⟨rfl, b⟩
    · have h1 : ¬ k < l := fun h => b k h f
      have h2 : ¬ l < k := fun h => a l h g
      omega
    · exact absurd f (b k)
  · rcases hs with ⟨l, _, rfl, g, b⟩ | ⟨rfl, b⟩
    · exact absurd g (a l)
    · rfl

theorem rgap_in {w : Int} (hw : W w) {n : Nat} {r : Int} {at_ : Nat} (hat : at_ + n ≤ 64) (hno : (¬ ∀ j, j < n → tb w (at_ + j) = false) → Eo (fun k => windrowref01_Gap.l0 k w (n : Int) ((at_ + 1 : Nat) : Int)) r)
    (hyes : (∀ j, j < n → tb w (at_ + j) = false) → r = at_) : ∀ d j : Nat, j + d = n → ∀ f : Bool, (f = true ↔ ∀ i, i < j → tb w (at_ + i) = false) → Eo (fun k => windrowref01_Gap.l1 k w (n : Int) (at_ : Int) f (j : Int)) r := by
  intro d
  induction d with
  | zero =>
    intro j hj f hf
    obtain rfl : j = n := by omega
    cases f with
    | true =>
      have := hyes (hf.mp rfl)
      refine ⟨1, fun k hk => ?_⟩
      obtain ⟨m, rfl⟩ : ∃ m, k = m + 1 := ⟨k - 1, by omega⟩
      show windrowref01_Gap.l1 (m + 1) w j at_ true j = _
      rw [windrowref01_Gap.l1, this]
      exact itn (by omega) (itp rfl rfl)
    | false =>
      refine (hno (fun z => by have := hf.mpr z; cases this)).step fun k hk => ?_
      rw [windrowref01_Gap.l1, w64 (x := (at_ : Int) + 1) (by omega) (by omega)]
      exact itn (by omega) (itn (by simp) hk)
  | succ d ih =>
    intro j hj f hf
    obtain ⟨K1, h1⟩ := bit_eo hw (at_ + j) (by omega)
    cases ht : tb w (at_ + j) with
    | true =>
      obtain ⟨K2, h2⟩ := ih (j + 1) (by omega) false (by
        constructor
        · intro z; cases z
        · intro z; have := z j (by omega); rw [ht] at this; cases this)
      refine ⟨K1 + K2 + 1, fun k hk => ?_⟩
      obtain ⟨m, rfl⟩ : ∃ m, k = m + 1 := ⟨k - 1, by omega⟩
      show windrowref01_Gap.l1 (m + 1) w n at_ f j = _
      rw [windrowref01_Gap.l1, w64 (x := (at_ : Int) + j) (by omega) (by omega), w64 (x := (j : Int) + 1) (by omega) (by omega)]
      have e := h1 m (by omega)
      rw [show ((at_ + j : Nat) : Int) = (at_ : Int) + (j : Int) by omega] at e
      exact itp (by omega) (bnd e (itp ((bi_one hw.1 _).mpr ht) (h2 m (by omega))))
    | false =>
      obtain ⟨K2, h2⟩ := ih (j + 1) (by omega) f (by
        rw [hf]
        constructor
        · intro z i hi
          by_cases e : i = j
          · rw [e, ht]
          · exact z i (by omega)
        · intro z i hi; exact z i (by omega))
      refine ⟨K1 + K2 + 1, fun k hk => ?_⟩
      obtain ⟨m, rfl⟩ : ∃ m, k = m + 1 := ⟨k - 1, by omega⟩
      show windrowref01_Gap.l1 (m + 1) w n at_ f j = _
      rw [windrowref01_Gap.l1, w64 (x := (at_ : Int) + j) (by omega) (by omega), w64 (x := (j : Int) + 1) (by omega) (by omega)]
      have e := h1 m (by omega)
      rw [show ((at_ + j : Nat) : Int) = (at_ : Int) + (j : Int) by omega] at e
      exact itp (by omega) (bnd e (itn (fun z => by rw [bi_one hw.1, ht] at z; cases z) (h2 m (by omega))))

theorem rgap_go {w : Int} (hw : W w) {n : Nat} (hn : 1 ≤ n) (hn64 : n ≤ 64) {r : Int} (hr : GapR w n r) : ∀ d a : Nat, a + d = 65 → (∀ i, i < a → ¬ Free w n i) → Eo (fun k => windrowref01_Gap.l0 k w (n : Int) (a : Int)) r := by
  intro d
  induction d with
  | zero =>
    intro a ha hno
    have : r = -1 := by
      rcases hr with ⟨k, hk, rfl, f, _⟩ | ⟨h, _⟩
      · exact absurd f (hno k (by omega))
      · exact h
    refine ⟨1, fun k hk => ?_⟩
    obtain ⟨m, rfl⟩ : ∃ m, k = m + 1 := ⟨k - 1, by omega⟩
    show windrowref01_Gap.l0 (m + 1) w n a = _
    rw [windrowref01_Gap.l0, w64 (by omega) (by omega), this]
    exact itn (by omega) rfl
  | succ d ih =>
    intro a ha hno
    by_cases hle : a + n ≤ 64
    · refine (rgap_in hw hle (fun z => ih (a + 1) (by omega) fun i hi => ?_) (fun z => ?_) n 0 (by omega) true ⟨fun _ i hi => absurd hi (by omega), fun _ => rfl⟩).step fun k hk => ?_
      · by_cases e : i = a
        · rw [e]; exact fun f => z f.2
        · exact hno i (by omega)
      · exact gapR_unique hr (.inl ⟨a, by omega, rfl, ⟨hle, z⟩, hno⟩)
      · rw [windrowref01_Gap.l0, w64 (by omega) (by omega)]
        exact itp (by omega) hk
    · have : r = -1 := by
        rcases hr with ⟨k, hk, rfl, f, _⟩ | ⟨h, _⟩
        · by_cases hka : k < a
          · exact absurd f (hno k hka)
          · have := f.1; omega
        · exact h
      refine ⟨1, fun k hk => ?_⟩
      obtain ⟨m, rfl⟩ : ∃ m, k = m + 1 := ⟨k - 1, by omega⟩
      show windrowref01_Gap.l0 (m + 1) w n a = _
      rw [windrowref01_Gap.l0, w64 (by omega) (by omega), this]
      exact itn (by omega) rfl

theorem rgap_eo {w : Int} (hw : W w) {n : Nat} (hn : 1 ≤ n) (hn64 : n ≤ 64) {r : Int} (hr : GapR w n r) : Eo (fun k => windrowref01_Gap.f k w (n : Int)) r :=
  (rgap_go hw hn hn64 hr 65 0 (by omega) (fun i hi => absurd hi (by omega))).congr fun k => by
    show windrowref01_Gap.f k w n = _
    unfold windrowref01_Gap.f
    exact itn (by omega) (itn (by omega) rfl)

/-- A field of noughts. -/
theorem zero_field {w : Int} (hw : W w) {a n : Nat} : w / 2 ^ a % 2 ^ n = 0 ↔ ∀ j, j < n → tb w (a + j) = false := by
  have h0 : 0 ≤ w / 2 ^ a := Int.ediv_nonneg hw.1 (Int.le_of_lt (Int.pow_pos (by omega)))
  have hW : W (w / 2 ^ a % 2 ^ n) := by
    have h1 : w / 2 ^ a ≤ w := Int.ediv_le_self _ hw.1
    have h2 : w / 2 ^ a % 2 ^ n ≤ w / 2 ^ a := emod_le h0 (Int.pow_pos (by omega))
    exact ⟨Int.emod_nonneg _ (Int.ne_of_gt (Int.pow_pos (by omega))), by have := hw.2; omega⟩
  have ht : ∀ i, tb (w / 2 ^ a % 2 ^ n) i = (decide (i < n) && tb w (a + i)) := fun i => by rw [tb_mod h0, tb_div hw.1]
  constructor
  · intro h j hj
    have := ht j
    rw [h, tb_zero, decide_eq_true hj] at this
    simpa using this.symm
  · intro h
    refine eq_zero_of hW fun i _ => ?_
    rw [ht]
    by_cases hi : i < n
    · rw [h i hi]; simp
    · rw [decide_eq_false hi]; rfl
end Go.Proofs.YtahmhhbpdgopjaaDoor.Wp

/- Ones counted, found, ranked; in plain numbers. -/
import Derived.Test.YtahmhhbpdgopjaaDoorWpC
import Derived.Test.YtahmhhbpdgopjaaDoorPop
namespace Go.Proofs.YtahmhhbpdgopjaaDoor.Wp
open Go.RowKit Go.Proofs.YtahmhhbpdgopjaaDoor.PAll Go.Proofs.YtahmhhbpdgopjaaDoorW.PrintWords Go.Proofs.YtahmhhbpdgopjaaDoorW.PrintLast Go.Proofs.YtahmhhbpdgopjaaDoorW.PrintMore
open Go.Proofs.YtahmhhbpdgopjaaDoor.Eo Go.Proofs.YtahmhhbpdgopjaaDoor.Wd Go.Proofs.YtahmhhbpdgopjaaDoor.Bt
set_option linter.unusedVariables false
set_option linter.unusedSimpArgs false

/-- math/bits.len8tab, as the walk spells it. -/
abbrev T8 : ByteArray := ⟨#[0, 1, 2, 2, 3, 3, 3, 3, 4, 4, 4, 4, 4, 4, 4, 4, 5, 5, 5, 5, 5, 5, 5, 5, 5, 5, 5, 5, 5, 5, 5, 5, 6, 6, 6, 6, 6, 6, 6, 6, 6, 6, 6, 6, 6, 6, 6, 6, 6, 6, 6, 6, 6, 6, 6, 6, 6, 6, 6, 6, 6, 6, 6, 6, 7, 7, 7, 7, 7, 7, 7, 7, 7, 7, 7, 7, 7, 7, 7, 7, 7, 7, 7, 7, 7, 7, 7, 7, 7, 7, 7, 7, 7, 7, 7, 7, 7, 7, 7, 7, 7, 7, 7, 7, 7, 7, 7, 7, 7, 7, 7, 7, 7, 7, 7, 7, 7, 7, 7, 7, 7, 7, 7, 7, 7, 7, 7, 7, 8, 8, 8, 8, 8, 8, 8, 8, 8, 8, 8, 8, 8, 8, 8, 8, 8, 8, 8, 8, 8, 8, 8, 8, 8, 8, 8, 8, 8, 8, 8, 8, 8, 8, 8, 8, 8, 8, 8, 8, 8, 8, 8, 8, 8, 8, 8, 8, 8, 8, 8, 8, 8, 8, 8, 8, 8, 8, 8, 8, 8, 8, 8, 8, 8, 8, 8, 8, 8, 8, 8, 8, 8, 8, 8, 8, 8, 8, 8, 8, 8, 8, 8, 8, 8, 8, 8, 8, 8, 8, 8, 8, 8, 8, 8, 8, 8, 8, 8, 8, 8, 8, 8, 8, 8, 8, 8, 8, 8, 8, 8, 8, 8, 8, 8, 8, 8, 8, 8, 8, 8, 8, 8, 8, 8, 8, 8, 8]⟩

/-- How many ones. -/
def ones (w : Int) : Nat := cnt (tb w) 64

theorem ones_eq {w : Int} (hw : W w) : word_Ones.f w = some ((ones w : Nat) : Int) := by
  have h : bits_OnesCount64.f w = some (Pop.swar w) := rfl
  unfold word_Ones.f
  rw [h, Pop.swar_eq hw]; rfl

theorem nth_exists {p : Nat → Bool} {m : Nat} : ∀ n, m < cnt p n → ∃ i, i < n ∧ p i = true ∧ cnt p i = m := by
  intro n
  induction n with
  | zero => intro h; exact absurd h (by simp [cnt])
  | succ n ih =>
    intro h
    by_cases hm : m < cnt p n
    · obtain ⟨i, hi, a, b⟩ := ih hm
      exact ⟨i, by omega, a, b⟩
    · rw [cnt] at h
      cases hp : p n with
      | true => rw [hp] at h; simp at h; exact ⟨n, by omega, hp, by omega⟩
      | false => rw [hp] at h; simp at h; omega

theorem nth_unique {p : Nat → Bool} {i j : Nat} (hi : p i = true) (hj : p j = true) (h : cnt p i = cnt p j) : i = j := by
  by_cases h1 : i < j
  · have h2 := cnt_mono p (show i + 1 ≤ j by omega)
    rw [cnt, hi] at h2; simp at h2; omega
  · by_cases h3 : j < i
    · have h2 := cnt_mono p (show j + 1 ≤ i by omega)
      rw [cnt, hj] at h2; simp at h2; omega
    · omega

/-! ### Select -/
theorem select_go {w : Int} (hw : W w) {m : Nat} (hm : m < ones w) : ∀ d j : Nat, j + d = m → ∀ x, W x → (∀ i, tb x i = true ↔ tb w i = true ∧ j ≤ cnt (tb w) i) →
    ∃ p : Nat, p < 64 ∧ tb w p = true ∧ cnt (tb w) p = m ∧ Eo (fun k => word_Select.l0 k x (m : Int) (j : Int)) (p : Int) := by
  have h64 : ones w ≤ 64 := cnt_le _ _
  have low : ∀ (j : Nat) (x : Int), W x → (∀ i, tb x i = true ↔ tb w i = true ∧ j ≤ cnt (tb w) i) → j < ones w → ∃ p : Nat, p < 64 ∧ tb w p = true ∧ cnt (tb w) p = j ∧ Low x p := by
    intro j x hx hb hj
    obtain ⟨p, hp, a, b⟩ := nth_exists 64 hj
    refine ⟨p, hp, a, b, (hb p).mpr ⟨a, by omega⟩, fun i hi => ?_⟩
    cases ht : tb x i with
    | false => rfl
    | true =>
      obtain ⟨c1, c2⟩ := (hb i).mp ht
      have h2 := cnt_mono (tb w) (show i + 1 ≤ p by omega)
      rw [cnt, c1] at h2; simp at h2; omega
  intro d
  induction d with
  | zero =>
    intro j hj x hx hb
    obtain rfl : j = m := by omega
    obtain ⟨p, hp, a, b, hl⟩ := low j x hx hb hm
    refine ⟨p, hp, a, b, 1, fun k hk => ?_⟩
    obtain ⟨q, rfl⟩ : ∃ q, k = q + 1 := ⟨k - 1, by omega⟩
    show word_Select.l0 (q + 1) x j j = _
    rw [word_Select.l0]
    exact itn (by omega) (bnd ((lowest_eq hx).trans (congrArg some (tz_low hx hp hl))) rfl)
  | succ d ih =>
    intro j hj x hx hb
    obtain ⟨p, hp, a, b, hl⟩ := low j x hx hb (by omega)
    obtain ⟨g1, g2⟩ := tb_pred hx hl
    have e : IntKind.u64.wrap (x - 1) = x - 1 := u64i g1.1 (by have := g1.2; omega)
    obtain ⟨r, hr, ra, rb, K, hK⟩ := ih (j + 1) (by omega) (Go.bits .and .u64 x (x - 1)) (W_and hx g1) (fun i => by
      rw [tb_and hx g1, g2, Bool.and_eq_true, hb]
      constructor
      · rintro ⟨⟨c1, c2⟩, c3⟩
        refine ⟨c1, ?_⟩
        by_cases hip : i = p
        · subst hip; simp at c3
        · by_cases hjc : cnt (tb w) i = j
          · exact absurd (nth_unique c1 a (hjc.trans b.symm)) hip
          · omega
      · rintro ⟨c1, c2⟩
        refine ⟨⟨c1, by omega⟩, ?_⟩
        by_cases hip : i < p
        · have h2 := cnt_mono (tb w) (show i ≤ p by omega); omega
        · by_cases hpi : p < i
          · rw [decide_eq_true hpi, (hb i).mpr ⟨c1, by omega⟩]; simp
          · obtain rfl : i = p := by omega
            omega)
    refine ⟨r, hr, ra, rb, K + 1, fun k hk => ?_⟩
    obtain ⟨q, rfl⟩ : ∃ q, k = q + 1 := ⟨k - 1, by omega⟩
    show word_Select.l0 (q + 1) x m j = _
    rw [word_Select.l0, e, w64 (x := (j : Int) + 1) (by omega) (by omega)]
    exact itp (by omega) (hK q (by omega))

/-- What Select answers. -/
def SelR (w m r : Int) : Prop := ((m < 0 ∨ (ones w : Int) ≤ m) ∧ r = -1) ∨ ∃ p : Nat, 0 ≤ m ∧ p < 64 ∧ tb w p = true ∧ (cnt (tb w) p : Int) = m ∧ r = p

theorem select_eo {w : Int} (hw : W w) (m : Int) : ∃ r, SelR w m r ∧ Eo (fun k => word_Select.f k w m) r := by
  have no : (m < 0 ∨ (ones w : Int) ≤ m) → Eo (fun k => word_Select.f k w m) (-1) := by
    intro h
    refine ⟨1, fun k hk => ?_⟩
    obtain ⟨q, rfl⟩ : ∃ q, k = q + 1 := ⟨k - 1, by omega⟩
    show word_Select.f (q + 1) w m = _
    unfold word_Select.f
    have last : word_Select.j0 (q + 1) w m true = some (-1) := by rw [word_Select.j0]; exact itp rfl rfl
    by_cases hm : m < 0
    · exact itp hm last
    · refine itn hm (bnd (ones_eq hw) ?_)
      rw [decide_eq_true (p := m ≥ (ones w : Int)) (by omega)]; exact last
  by_cases h : m < 0 ∨ (ones w : Int) ≤ m
  · exact ⟨-1, .inl ⟨h, rfl⟩, no h⟩
  · obtain ⟨m', rfl⟩ := Int.eq_ofNat_of_zero_le (show 0 ≤ m by omega)
    obtain ⟨p, hp, a, b, K, hK⟩ := select_go hw (m := m') (by omega) m' 0 (by omega) w hw (fun i => by simp)
    refine ⟨p, .inr ⟨p, by omega, hp, a, by omega, rfl⟩, K + 1, fun k hk => ?_⟩
    obtain ⟨q, rfl⟩ : ∃ q, k = q + 1 := ⟨k - 1, by omega⟩
    show word_Select.f (q + 1) w m' = _
    unfold word_Select.f
    refine itn (by omega) (bnd (ones_eq hw) ?_)
    rw [decide_eq_false (p := (m' : Int) ≥ (ones w : Int)) (by omega), word_Select.j0]
    exact itn (by simp) (hK q (by omega))

/-! ### the chapter's places -/
def pl (w : Int) : Nat → List Int
  | 0 => []
  | n + 1 => if tb w n then pl w n ++ [(n : Int)] else pl w n

theorem pl_len (w : Int) (n : Nat) : (pl w n).length = cnt (tb w) n := by
  induction n with
  | zero => rfl
  | succ n ih =>
    rw [pl, cnt]
    cases tb w n <;> simp [ih]

theorem places_go {w : Int} (hw : W w) : ∀ d j : Nat, j + d = 64 → Eo (fun k => windrowref01_Places.l0 k w (pl w j) (j : Int)) (pl w 64) := by
  intro d
  induction d with
  | zero =>
    intro j hj
    obtain rfl : j = 64 := by omega
    refine ⟨1, fun k hk => ?_⟩
    obtain ⟨q, rfl⟩ : ∃ q, k = q + 1 := ⟨k - 1, by omega⟩
    show windrowref01_Places.l0 (q + 1) w (pl w 64) (64 : Nat) = _
    rw [windrowref01_Places.l0]
    exact itn (by omega) rfl
  | succ d ih =>
    intro j hj
    obtain ⟨K1, h1⟩ := bit_eo hw j (by omega)
    obtain ⟨K2, h2⟩ := ih (j + 1) (by omega)
    refine ⟨K1 + K2 + 1, fun k hk => ?_⟩
    obtain ⟨q, rfl⟩ : ∃ q, k = q + 1 := ⟨k - 1, by omega⟩
    show windrowref01_Places.l0 (q + 1) w (pl w j) j = _
    have e := h2 q (by omega)
    rw [windrowref01_Places.l0, w64 (x := (j : Int) + 1) (by omega) (by omega)]
    refine itp (by omega) (bnd (h1 q (by omega)) ?_)
    cases ht : tb w j with
    | true =>
      have el : pl w (j + 1) = pl w j ++ [(j : Int)] := by rw [pl, ht]; rfl
      rw [el] at e
      have := cnt_le (tb w) j
      exact itp ((bi_one hw.1 j).mpr ht) (itp (by rw [pl_len]; omega) e)
    | false =>
      have el : pl w (j + 1) = pl w j := by rw [pl, ht]; rfl
      rw [el] at e
      exact itn (fun z => by rw [bi_one hw.1, ht] at z; cases z) e

theorem places_eo {w : Int} (hw : W w) : Eo (fun k => windrowref01_Places.f k w) (pl w 64) :=
  (places_go hw 64 0 (by omega)).congr fun k => by
    show windrowref01_Places.f k w = _
    unfold windrowref01_Places.f; rfl

theorem pl_get {w : Int} {m : Nat} : ∀ n, m < cnt (tb w) n → ∃ p : Nat, p < n ∧ tb w p = true ∧ cnt (tb w) p = m ∧ (pl w n).getD m 0 = p := by
  intro n
  induction n with
  | zero => intro h; exact absurd h (by simp [cnt])
  | succ n ih =>
    intro h
    have hl := pl_len w n
    rw [pl]
    by_cases hm : m < cnt (tb w) n
    · obtain ⟨p, hp, a, b, c⟩ := ih hm
      refine ⟨p, by omega, a, b, ?_⟩
      cases ht : tb w n with
      | true =>
        rw [if_pos rfl, List.getD_eq_getElem?_getD, List.getElem?_append_left (by omega), ← List.getD_eq_getElem?_getD]; exact c
      | false => rw [if_neg (by simp)]; exact c
    · rw [cnt] at h
      cases ht : tb w n with
      | true =>
        rw [ht] at h; simp at h
        refine ⟨n, by omega, ht, by omega, ?_⟩
        rw [if_pos rfl, List.getD_eq_getElem?_getD, List.getElem?_append_right (by omega), show m - (pl w n).length = 0 by omega]; rfl
      | false => rw [ht] at h; simp at h; omega

theorem pl_rd {w : Int} {m : Nat} (h : m < ones w) : ∃ p : Nat, p < 64 ∧ tb w p = true ∧ cnt (tb w) p = m ∧ rd (pl w 64) (m : Int) = p := by
  obtain ⟨p, a, b, c, d⟩ := pl_get 64 h
  exact ⟨p, a, b, c, by unfold rd; rw [Int.toNat_natCast]; exact d⟩

theorem rselect_eo {w m r : Int} (hw : W w) (hr : SelR w m r) : Eo (fun k => windrowref01_Select.f k w m) r := by
  refine (places_eo hw).imp fun K hK k hk => ?_
  show windrowref01_Select.f k w m = _
  have hl : (pl w 64).length = ones w := pl_len w 64
  unfold windrowref01_Select.f
  refine bnd (hK k hk) ?_
  rw [hl]
  rcases hr with ⟨h, rfl⟩ | ⟨p, h0, hp, ht, hc, rfl⟩
  · by_cases hm : m < 0
    · exact itp hm rfl
    · exact itn hm (itp (by omega) rfl)
  · have hlt : m < (ones w : Int) := by
      have h2 := cnt_mono (tb w) (show p + 1 ≤ 64 by omega)
      rw [cnt, ht] at h2; simp at h2
      unfold ones; omega
    refine itn (by omega) (itn (by omega) (itp h0 (itp hlt ?_)))
    obtain ⟨m', rfl⟩ := Int.eq_ofNat_of_zero_le h0
    obtain ⟨q, hq, a, b, c⟩ := pl_rd (w := w) (m := m') (by omega)
    rw [c, nth_unique a ht (by omega)]

/-! ### Rank and Mask -/
def upto (a : Int) : Nat := min 64 a.toNat

theorem mask_all (a : Int) : word_Mask.f a = some (2 ^ upto a - 1) := by
  by_cases h0 : a ≤ 0
  · unfold word_Mask.f
    rw [if_pos h0, show upto a = 0 by unfold upto; omega]; rfl
  · by_cases h1 : a ≥ 64
    · unfold word_Mask.f
      rw [if_neg h0, if_pos h1, show upto a = 64 by unfold upto; omega]; rfl
    · obtain ⟨n, rfl⟩ := Int.eq_ofNat_of_zero_le (show 0 ≤ a by omega)
      rw [mask_eq (by omega), show upto (n : Int) = n by unfold upto; omega]

theorem cnt_below (p : Nat → Bool) (m : Nat) : ∀ n, cnt (fun i => p i && decide (i < m)) n = cnt p (min n m) := by
  intro n
  induction n with
  | zero => rw [Nat.zero_min]; rfl
  | succ n ih =>
    rw [cnt, ih]
    by_cases h : n < m
    · rw [decide_eq_true h, Bool.and_true, show min (n + 1) m = n + 1 by omega, show min n m = n by omega, cnt]
    · rw [decide_eq_false h, Bool.and_false, show min (n + 1) m = min n m by omega]; rfl

theorem rank_eq {w : Int} (hw : W w) (a : Int) : word_Rank.f w a = some ((cnt (tb w) (upto a) : Nat) : Int) := by
  have hu : upto a ≤ 64 := Nat.min_le_left _ _
  have hm := W_mask hu
  unfold word_Rank.f
  refine bnd (mask_all a) (bnd (ones_eq (W_and hw hm)) ?_)
  have e : ones (Go.bits .and .u64 w (2 ^ upto a - 1)) = cnt (tb w) (upto a) := by
    unfold ones
    rw [cnt_congr (q := fun i => tb w i && decide (i < upto a)) fun i hi => by rw [tb_and hw hm, tb_mask], cnt_below, show min 64 (upto a) = upto a by omega]
  rw [e]

/-- How many of a list stand below a. -/
def cl (a : Int) : List Int → Nat
  | [] => 0
  | x :: l => (if x < a then 1 else 0) + cl a l

theorem cl_append (a : Int) (l m : List Int) : cl a (l ++ m) = cl a l + cl a m := by
  induction l with
  | nil => rw [List.nil_append]; simp [cl]
  | cons x l ih => rw [List.cons_append, cl, cl, ih]; omega

theorem cl_pl (w a : Int) (n : Nat) : cl a (pl w n) = cnt (tb w) (min n a.toNat) := by
  induction n with
  | zero => rw [Nat.zero_min]; rfl
  | succ n ih =>
    rw [pl]
    by_cases h : (n : Int) < a
    · rw [show min (n + 1) a.toNat = n + 1 by omega, cnt]
      rw [show min n a.toNat = n by omega] at ih
      cases ht : tb w n with
      | true => rw [if_pos rfl, cl_append, ih]; simp [cl, h]
      | false => rw [if_neg (by simp), ih]; simp
    · rw [show min (n + 1) a.toNat = min n a.toNat by omega]
      cases ht : tb w n with
      | true => rw [if_pos rfl, cl_append, ih]; simp [cl, h]
      | false => rw [if_neg (by simp), ih]

theorem rrank_go (a : Int) (L : List Int) (hL : L.length ≤ 64) : ∀ d j : Nat, j + d = L.length → ∀ c : Nat, c ≤ j → Eo (fun k => windrowref01_Rank.l0 k a (c : Int) L (j : Int)) ((c + cl a (L.drop j) : Nat) : Int) := by
  intro d
  induction d with
  | zero =>
    intro j hj c hc
    refine ⟨1, fun k hk => ?_⟩
    obtain ⟨q, rfl⟩ : ∃ q, k = q + 1 := ⟨k - 1, by omega⟩
    show windrowref01_Rank.l0 (q + 1) a c L j = _
    rw [windrowref01_Rank.l0, List.drop_eq_nil_of_le (by omega)]
    exact itn (by omega) rfl
  | succ d ih =>
    intro j hj c hc
    have hjl : j < L.length := by omega
    have hd : L.drop j = rd L (j : Int) :: L.drop (j + 1) := by
      rw [List.drop_eq_getElem_cons hjl]
      unfold rd
      rw [Int.toNat_natCast, List.getD_eq_getElem?_getD, List.getElem?_eq_getElem hjl]; rfl
    by_cases hlt : rd L (j : Int) < a
    · rw [hd, cl, if_pos hlt, show c + (1 + cl a (L.drop (j + 1))) = c + 1 + cl a (L.drop (j + 1)) by omega]
      refine (ih (j + 1) (by omega) (c + 1) (by omega)).step fun k hk => ?_
      rw [windrowref01_Rank.l0, w64 (x := (c : Int) + 1) (by omega) (by omega), w64 (x := (j : Int) + 1) (by omega) (by omega)]
      exact itp (by omega) (itp (by omega) (itp hlt hk))
    · rw [hd, cl, if_neg hlt, show c + (0 + cl a (L.drop (j + 1))) = c + cl a (L.drop (j + 1)) by omega]
      refine (ih (j + 1) (by omega) c (by omega)).step fun k hk => ?_
      rw [windrowref01_Rank.l0, w64 (x := (j : Int) + 1) (by omega) (by omega)]
      exact itp (by omega) (itp (by omega) (itn hlt hk))

theorem rrank_eo {w : Int} (hw : W w) (a : Int) : Eo (fun k => windrowref01_Rank.f k w a) ((cnt (tb w) (upto a) : Nat) : Int) := by
  have hl : (pl w 64).length ≤ 64 := by rw [pl_len]; exact cnt_le _ _
  obtain ⟨K1, h1⟩ := places_eo hw
  obtain ⟨K2, h2⟩ := rrank_go a (pl w 64) hl (pl w 64).length 0 (Nat.zero_add _) 0 (Nat.le_refl _)
  refine ⟨K1 + K2, fun k hk => ?_⟩
  show windrowref01_Rank.f k w a = _
  unfold windrowref01_Rank.f
  refine bnd (h1 k (by omega)) ((h2 k (by omega)).trans ?_)
  rw [List.drop_zero, cl_pl, Nat.zero_add]; rfl

theorem rmask_go (a : Int) : ∀ d j : Nat, j + d = 64 → Eo (fun k => windrowref01_Mask.l0 k a (2 ^ min j a.toNat - 1) (j : Int)) (2 ^ upto a - 1) := by
  intro d
  induction d with
  | zero =>
    intro j hj
    obtain rfl : j = 64 := by omega
    refine ⟨1, fun k hk => ?_⟩
    obtain ⟨q, rfl⟩ : ∃ q, k = q + 1 := ⟨k - 1, by omega⟩
    show windrowref01_Mask.l0 (q + 1) a _ (64 : Nat) = _
    rw [windrowref01_Mask.l0]
    exact itn (by omega) rfl
  | succ d ih =>
    intro j hj
    obtain ⟨K1, h1⟩ := power_eo j (by omega)
    obtain ⟨K2, h2⟩ := ih (j + 1) (by omega)
    refine ⟨K1 + K2 + 1, fun k hk => ?_⟩
    obtain ⟨q, rfl⟩ : ∃ q, k = q + 1 := ⟨k - 1, by omega⟩
    show windrowref01_Mask.l0 (q + 1) a _ j = _
    have e := h2 q (by omega)
    rw [windrowref01_Mask.l0, w64 (x := (j : Int) + 1) (by omega) (by omega)]
    refine itp (by omega) ?_
    by_cases hja : (j : Int) < a
    · refine itp hja (bnd (h1 q (by omega)) ?_)
      rw [show min j a.toNat = j by omega]
      rw [show min (j + 1) a.toNat = j + 1 by omega] at e
      have hp : 2 ^ (j + 1) ≤ 2 ^ 64 := Nat.pow_le_pow_right (by decide) (by omega)
      have e2 : (2 : Int) ^ (j + 1) = ((2 ^ (j + 1) : Nat) : Int) := by push_cast; rfl
      have e3 : (2 : Int) ^ (j + 1) = 2 ^ j * 2 := Int.pow_succ _ _
      have e4 : (0 : Int) < 2 ^ j := Int.pow_pos (by omega)
      rw [show (2 : Int) ^ j - 1 + 2 ^ j = 2 ^ (j + 1) - 1 by omega, u64i (by omega) (by omega)]
      exact e
    · refine itn hja ?_
      rw [show min (j + 1) a.toNat = min j a.toNat by omega] at e
      exact e

theorem rmask_eo (a : Int) : Eo (fun k => windrowref01_Mask.f k a) (2 ^ upto a - 1) :=
  (rmask_go a 64 0 (by omega)).congr fun k => by
    show windrowref01_Mask.f k a = _
    unfold windrowref01_Mask.f
    rw [Nat.zero_min]; rfl

/-! ### the highest one -/
abbrev Len (x L : Nat) : Prop := (x = 0 ∧ L = 0) ∨ (1 ≤ L ∧ 2 ^ (L - 1) ≤ x ∧ x < 2 ^ L)

theorem len_lift {x s L : Nat} (h : Len (x / 2 ^ s) L) (hx : 2 ^ s ≤ x) : Len x (L + s) := by
  have hp := Nat.two_pow_pos s
  rcases h with ⟨h, _⟩ | ⟨h1, h2, h3⟩
  · have := Nat.div_pos hx hp; omega
  · refine .inr ⟨by omega, ?_, ?_⟩
    · rw [show L + s - 1 = L - 1 + s by omega, Nat.pow_add]
      exact (Nat.le_div_iff_mul_le hp).mp h2
    · rw [Nat.pow_add]
      exact (Nat.div_lt_iff_lt_mul hp).mp h3

theorem t8_len : ∀ b : Fin 256, 0 ≤ bt T8 (b.1 : Int) ∧ bt T8 (b.1 : Int) ≤ 8 ∧ Len b.1 (bt T8 (b.1 : Int)).toNat := by decide +kernel

theorem j0_len (k : Nat) {x n : Nat} (hx : x < 4294967296) (hn : n ≤ 32) : ∃ L : Nat, Len x L ∧ L ≤ 32 ∧ bits_Len64.j0 (k + 1) (x : Int) (n : Int) = some ((n + L : Nat) : Int) := by
  have tab : ∀ b : Nat, b < 256 → ∃ l : Nat, l ≤ 8 ∧ Len b l ∧ ∀ i : Int, i = b → wrap64 (bt T8 i) = (l : Int) := fun b hb => by
    have a1 : 0 ≤ bt T8 (b : Int) := (t8_len ⟨b, hb⟩).1
    have a2 : bt T8 (b : Int) ≤ 8 := (t8_len ⟨b, hb⟩).2.1
    have a3 : Len b (bt T8 (b : Int)).toNat := (t8_len ⟨b, hb⟩).2.2
    refine ⟨_, by omega, a3, fun i hi => ?_⟩
    subst hi
    rw [w64 (by omega) (by omega)]; omega
  rw [bits_Len64.j0]
  by_cases h1 : x ≥ 65536
  · by_cases h2 : x / 65536 ≥ 256
    · obtain ⟨l, hl, hL, ht⟩ := tab (x / 65536 / 256) (by omega)
      refine ⟨l + 8 + 16, len_lift (s := 16) (len_lift (s := 8) hL h2) h1, by omega, ?_⟩
      refine itp (by omega) (itp (by omega) (itp (by omega) (itp (by omega) ?_)))
      rw [ht _ (by omega), w64 (x := (n : Int) + 16) (by omega) (by omega), w64 (x := (n : Int) + 16 + 8) (by omega) (by omega), w64 (by omega) (by omega)]
      congr 1; omega
    · obtain ⟨l, hl, hL, ht⟩ := tab (x / 65536) (by omega)
      refine ⟨l + 16, len_lift (s := 16) hL h1, by omega, ?_⟩
      refine itp (by omega) (itn (by omega) (itp (by omega) (itp (by omega) ?_)))
      rw [ht _ (by omega), w64 (x := (n : Int) + 16) (by omega) (by omega), w64 (by omega) (by omega)]
      congr 1; omega
  · by_cases h2 : x ≥ 256
    · obtain ⟨l, hl, hL, ht⟩ := tab (x / 256) (by omega)
      refine ⟨l + 8, len_lift (s := 8) hL h2, by omega, ?_⟩
      refine itn (by omega) (itp (by omega) (itp (by omega) (itp (by omega) ?_)))
      rw [ht _ (by omega), w64 (x := (n : Int) + 8) (by omega) (by omega), w64 (by omega) (by omega)]
      congr 1; omega
    · obtain ⟨l, hl, hL, ht⟩ := tab x (by omega)
      refine ⟨l, hL, by omega, ?_⟩
      refine itn (by omega) (itn (by omega) (itp (by omega) (itp (by omega) ?_)))
      rw [ht _ (by omega), w64 (by omega) (by omega)]
      congr 1

theorem len_eq (k : Nat) {x : Nat} (hx : x < 18446744073709551616) : ∃ L : Nat, Len x L ∧ L ≤ 64 ∧ bits_Len64.f (k + 1) (x : Int) = some (L : Int) := by
  unfold bits_Len64.f
  by_cases h : x ≥ 4294967296
  · obtain ⟨L, a, b, c⟩ := j0_len k (x := x / 4294967296) (n := 32) (by omega) (by omega)
    refine ⟨L + 32, len_lift (s := 32) a h, by omega, itp (by omega) ?_⟩
    rw [show (x : Int) / 4294967296 = ((x / 4294967296 : Nat) : Int) by omega]
    exact c.trans (by congr 1; omega)
  · obtain ⟨L, a, b, c⟩ := j0_len k (x := x) (n := 0) (by omega) (by omega)
    exact ⟨L, a, by omega, itn (by omega) (c.trans (by congr 1; omega))⟩

/-- h is the highest one's place; -1: there is none. -/
def High (w h : Int) : Prop := (w = 0 ∧ h = -1) ∨ ∃ p : Nat, p < 64 ∧ h = p ∧ tb w p = true ∧ ∀ i, p < i → tb w i = false

theorem highest_eo {w : Int} (hw : W w) (k : Nat) : ∃ h, High w h ∧ word_Highest.f (k + 1) w = some h := by
  obtain ⟨n, rfl, hn⟩ := hw.nat
  obtain ⟨L, a, b, c⟩ := len_eq k hn
  refine ⟨(L : Int) - 1, ?_, ?_⟩
  · rcases a with ⟨h1, h2⟩ | ⟨h1, h2, h3⟩
    · exact .inl ⟨by omega, by omega⟩
    · refine .inr ⟨L - 1, by omega, by omega, ?_, fun i hi => ?_⟩
      · rw [tb_nat, Nat.testBit_eq_decide_div_mod_eq]
        have hp := Nat.two_pow_pos (L - 1)
        have e : 2 ^ L = 2 * 2 ^ (L - 1) := by rw [Nat.mul_comm, ← Nat.pow_succ]; congr 1; omega
        have e1 : n / 2 ^ (L - 1) = 1 := Nat.div_eq_of_lt_le (by omega) (by omega)
        rw [e1]; rfl
      · rw [tb_nat]
        exact Nat.testBit_lt_two_pow (Nat.lt_of_lt_of_le h3 (Nat.pow_le_pow_right (by decide) (by omega)))
  · unfold word_Highest.f
    refine bnd c ?_
    rw [w64 (by omega) (by omega)]
end Go.Proofs.YtahmhhbpdgopjaaDoor.Wp

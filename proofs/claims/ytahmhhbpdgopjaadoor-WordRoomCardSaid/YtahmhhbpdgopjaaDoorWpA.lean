/- Fields of words: the program's and the chapter's, in plain numbers. -/
import Derived.Test.YtahmhhbpdgopjaaDoorBt
import Derived.Test.YtahmhhbpdgopjaaDoorPAllx
namespace Go.Proofs.YtahmhhbpdgopjaaDoor.Wp
open Go.RowKit Go.Proofs.YtahmhhbpdgopjaaDoor.PAll Go.Proofs.YtahmhhbpdgopjaaDoorW.PrintWords Go.Proofs.YtahmhhbpdgopjaaDoorW.PrintLast Go.Proofs.YtahmhhbpdgopjaaDoorW.PrintMore
open Go.Proofs.YtahmhhbpdgopjaaDoor.Eo Go.Proofs.YtahmhhbpdgopjaaDoor.Wd Go.Proofs.YtahmhhbpdgopjaaDoor.Bt
set_option linter.unusedVariables false
set_option linter.unusedSimpArgs false

theorem td {a b : Int} (h : 0 ≤ a) : Int.tdiv a b = a / b := Int.tdiv_eq_ediv_of_nonneg h
theorem tm {a b : Int} (h : 0 ≤ a) : Int.tmod a b = a % b := Int.tmod_eq_emod_of_nonneg h

theorem wfW {x : Int} (h : (Lit.int .u64 x).wf = true) : W x := by
  have h' : IntKind.u64.min ≤ x ∧ x ≤ IntKind.u64.max := by simpa [Lit.wf] using h
  exact ⟨h'.1, by have := h'.2; have e : IntKind.u64.max = 18446744073709551615 := rfl; omega⟩
theorem wf64 {x : Int} (h : (Lit.int .i64 x).wf = true) : -9223372036854775808 ≤ x ∧ x ≤ 9223372036854775807 := by
  have h' : IntKind.i64.min ≤ x ∧ x ≤ 9223372036854775807 := by simpa [Lit.wf] using h
  exact ⟨h'.1, h'.2⟩

theorem emod_le {a b : Int} (h : 0 ≤ a) (hb : 0 < b) : a % b ≤ a := by
  have h1 := Int.mul_ediv_add_emod a b
  have h2 : 0 ≤ a / b := Int.ediv_nonneg h (by omega)
  have h3 : 0 ≤ b * (a / b) := Int.mul_nonneg (by omega) h2
  omega

theorem field_eq (a n : Int) : word_field.f a n = some (decide (0 ≤ a ∧ a < 64 ∧ 1 ≤ n ∧ n ≤ 64 - a)) := by
  unfold word_field.f
  split
  · split
    · split
      · rw [w64 (by omega) (by omega)]
        congr 1; rw [Bool.eq_iff_iff]; simp only [decide_eq_true_eq]; omega
      all_goals (rw [decide_eq_false (by omega)])
    all_goals (rw [decide_eq_false (by omega)])
  all_goals (rw [decide_eq_false (by omega)])

theorem rfield_eq (a n : Int) : windrowref01_Field.f a n = some (decide (0 ≤ a ∧ a < 64 ∧ 1 ≤ n ∧ n ≤ 64 - a)) := by
  unfold windrowref01_Field.f
  split
  · rw [decide_eq_false (by omega)]
  · split
    · rw [decide_eq_false (by omega)]
    · split
      · rw [decide_eq_false (by omega)]
      · split
        · rw [decide_eq_false (by omega)]
        · rw [w64 (by omega) (by omega)]
          congr 1; rw [Bool.eq_iff_iff]; simp only [decide_eq_true_eq]; omega

theorem mask_eq {n : Nat} (hn : n ≤ 64) : word_Mask.f n = some (2 ^ n - 1) := by
  unfold word_Mask.f
  by_cases h0 : n = 0
  · subst h0; rfl
  · rw [if_neg (by omega)]
    by_cases h : n = 64
    · subst h; rfl
    · rw [if_neg (by omega), if_pos (by omega)]
      have hp : 2 ^ n ≤ 2 ^ 63 := Nat.pow_le_pow_right (by decide) (by omega)
      have h1 : 1 ≤ 2 ^ n := Nat.one_le_two_pow
      have e : shl .u64 1 (n : Int) = ((2 ^ n : Nat) : Int) := by
        show IntKind.u64.wrap (1 * 2 ^ min ((n : Int).toNat) 64) = _
        have e2 : (2 : Int) ^ n = ((2 ^ n : Nat) : Int) := by rw [Int.natCast_pow]; rfl
        rw [show min ((n : Int).toNat) 64 = n by omega, Int.one_mul, e2, u64i (by omega) (by omega)]
      rw [e, u64i (by omega) (by omega)]
      simp

theorem get_eq {w : Int} (hw : W w) {a n : Nat} (hn : 1 ≤ n) (han : a + n ≤ 64) : word_Get.f w a n = some (w / 2 ^ a % 2 ^ n, 0) := by
  unfold word_Get.f
  rw [field_eq, decide_eq_true (by omega)]
  refine bnd rfl (itp rfl (itp (by omega) (bnd (mask_eq (by omega)) ?_)))
  have e : shr .u64 w (a : Int) = w / 2 ^ a := by
    unfold shr; rw [show min ((a : Int).toNat) IntKind.u64.bits = a from Nat.min_eq_left (by show (a : Int).toNat ≤ 64; omega)]
  have hs := W_shr (n := (a : Int)) hw
  rw [e] at hs ⊢
  rw [and_mask hs (by omega)]

theorem get_no (w : Int) {a n : Int} (h : ¬ (0 ≤ a ∧ a < 64 ∧ 1 ≤ n ∧ n ≤ 64 - a)) : word_Get.f w a n = some (0, 1) := by
  unfold word_Get.f
  rw [field_eq, decide_eq_false h]
  exact bnd rfl (itn (by simp) rfl)

/-- The word that a field's number is put into. -/
def putW (w a n v : Int) : Int := Go.bits .or .u64 (Go.bits .andNot .u64 w (shl .u64 (2 ^ n.toNat - 1) a)) (shl .u64 v a)

theorem putW_W {w v : Int} (hw : W w) (hv : W v) (a n : Int) : W (putW w a n v) := W_or (W_andNot hw (W_shl _ _)) (W_shl _ _)

theorem putW_tb {w v : Int} (hw : W w) (hv : W v) {a n : Nat} (han : a + n ≤ 64) (hvn : v < 2 ^ n) {i : Nat} (hi : i < 64) :
    tb (putW w a n v) i = if a ≤ i ∧ i < a + n then tb v (i - a) else tb w i := by
  unfold putW
  have hz := (lt_iff hv (n := n) (by omega)).mp hvn
  rw [tb_or (W_andNot hw (W_shl _ _)) (W_shl _ _), tb_andNot hw (W_shl _ _), Int.toNat_natCast, tb_shl (W_mask (by omega)) (by omega), tb_shl hv (by omega), tb_mask, Int.toNat_natCast, decide_eq_true hi]
  by_cases h1 : a ≤ i
  · rw [decide_eq_true (p := (a : Int) ≤ i) (by omega)]
    by_cases h2 : i < a + n
    · rw [if_pos ⟨h1, h2⟩, decide_eq_true (p := i - a < n) (by omega)]; simp
    · rw [if_neg (fun z => h2 z.2), decide_eq_false (p := i - a < n) (by omega), hz (i - a) (by omega) (by omega)]; simp
  · rw [if_neg (fun z => h1 z.1), decide_eq_false (p := (a : Int) ≤ i) (by omega)]; simp

theorem put_eq {w v : Int} (hw : W w) (hv : W v) {a n : Nat} (hn : 1 ≤ n) (han : a + n ≤ 64) :
    word_Put.f w a n v = some (if v < 2 ^ n then (putW w a n v, 0) else (0, 3)) := by
  unfold word_Put.f
  rw [field_eq, decide_eq_true (by omega)]
  refine bnd rfl (itp rfl (bnd (mask_eq (by omega)) ?_))
  by_cases h : v < 2 ^ n
  · rw [if_pos h]
    exact itp ((andNot_zero_iff hv (by omega)).mpr h) (bnd (mask_eq (by omega)) (itp (by omega) (by unfold putW; rw [Int.toNat_natCast])))
  · rw [if_neg h]
    exact itn (fun z => h ((andNot_zero_iff hv (by omega)).mp z)) rfl

theorem put_no (w v : Int) {a n : Int} (h : ¬ (0 ≤ a ∧ a < 64 ∧ 1 ≤ n ∧ n ≤ 64 - a)) : word_Put.f w a n v = some (0, 1) := by
  unfold word_Put.f
  rw [field_eq, decide_eq_false h]
  exact bnd rfl (itn (by simp) rfl)

/-! ### the chapter's powers and bits -/
theorem power_go (i : Nat) (hi : i < 64) : ∀ d j : Nat, j + d = i → Eo (fun k => windrowref01_Power.l0 k (i : Int) (2 ^ j) (j : Int)) (2 ^ i) := by
  intro d
  induction d with
  | zero =>
    intro j hj
    obtain rfl : j = i := by omega
    refine Eo.step (g := fun _ => some (2 ^ j)) (Eo.of fun _ => rfl) fun k _ => ?_
    rw [windrowref01_Power.l0]
    exact itn (by omega) rfl
  | succ d ih =>
    intro j hj
    refine (ih (j + 1) (by omega)).step fun k hk => ?_
    rw [windrowref01_Power.l0]
    refine itp (by omega) ?_
    have hp : 2 ^ (j + 1) < 18446744073709551616 := Nat.pow_lt_pow_right (n := 64) (m := j + 1) (by decide) (by omega)
    have e : (2 : Int) ^ j * 2 = ((2 ^ (j + 1) : Nat) : Int) := by push_cast; rw [Int.pow_succ]
    have e2 : (2 : Int) ^ (j + 1) = ((2 ^ (j + 1) : Nat) : Int) := by push_cast; rfl
    have e0 : (0 : Int) ≤ ((2 ^ (j + 1) : Nat) : Int) := Int.natCast_nonneg _
    rw [e, u64i e0 (by omega), w64 (by omega) (by omega), ← e2]
    rw [← hk]; rfl

theorem power_eo (i : Nat) (hi : i < 64) : Eo (fun k => windrowref01_Power.f k (i : Int)) (2 ^ i) :=
  (power_go i hi i 0 (by omega)).congr fun k => by unfold windrowref01_Power.f; rfl

theorem bit_eo {w : Int} (hw : W w) (i : Nat) (hi : i < 64) : Eo (fun k => windrowref01_Bit.f k w (i : Int)) (bi w i) := by
  obtain ⟨K, hK⟩ := power_eo i hi
  refine ⟨K, fun k hk => ?_⟩
  show windrowref01_Bit.f k w (i : Int) = _
  unfold windrowref01_Bit.f
  have hp : (0 : Int) < 2 ^ i := Int.pow_pos (by omega)
  refine bnd (hK k hk) (itn (by omega) ?_)
  have h0 : 0 ≤ w / 2 ^ i := Int.ediv_nonneg hw.1 (by omega)
  have h1 : w / 2 ^ i ≤ w := Int.ediv_le_self _ hw.1
  rw [td hw.1, u64i h0 (by have := hw.2; omega), tm h0]; rfl

theorem rget_go {w : Int} (hw : W w) {a n : Nat} (han : a + n ≤ 64) : ∀ d j : Nat, j + d = n → ∀ x, W x → (∀ i, tb x i = (decide (i < j) && tb w (a + i))) →
    Eo (fun k => windrowref01_Get.l0 k w (a : Int) (n : Int) x (j : Int)) (w / 2 ^ a % 2 ^ n, 0) := by
  intro d
  induction d with
  | zero =>
    intro j hj x hx hb
    obtain rfl : j = n := by omega
    refine Eo.step (g := fun _ => some (w / 2 ^ a % 2 ^ j, 0)) (Eo.of fun _ => rfl) fun k _ => ?_
    rw [windrowref01_Get.l0]
    refine itn (by omega) ?_
    have h0 : 0 ≤ w / 2 ^ a := Int.ediv_nonneg hw.1 (Int.le_of_lt (Int.pow_pos (by omega)))
    have hp : (0 : Int) < 2 ^ j := Int.pow_pos (by omega)
    have e : x = w / 2 ^ a % 2 ^ j := by
      refine ext hx ⟨Int.emod_nonneg _ (by omega), ?_⟩ fun i hi => ?_
      · have h1 : w / 2 ^ a ≤ w := Int.ediv_le_self _ hw.1
        have h2 : w / 2 ^ a % 2 ^ j ≤ w / 2 ^ a := emod_le h0 (Int.pow_pos (by omega))
        have := hw.2; omega
      · rw [hb, tb_mod h0, tb_div hw.1]
    rw [e]
  | succ d ih =>
    intro j hj x hx hb
    have hx' : tb x j = false := by rw [hb, decide_eq_false (by omega)]; rfl
    obtain ⟨g1, g2⟩ := addref hx hw (p := j) (s := a + j) (by omega) hx' rfl rfl
    obtain ⟨K1, h1⟩ := bit_eo hw (a + j) (by omega)
    obtain ⟨K2, h2⟩ := power_eo j (by omega)
    obtain ⟨K3, h3⟩ := ih (j + 1) (by omega) _ g1 (fun i => by
      rw [g2, hb]
      by_cases e : i = j
      · subst e; simp
      · rw [decide_eq_false e]
        by_cases h : i < j
        · rw [decide_eq_true h, decide_eq_true (p := i < j + 1) (by omega)]; simp
        · rw [decide_eq_false h, decide_eq_false (p := i < j + 1) (by omega)]; simp)
    refine ⟨K1 + K2 + K3 + 1, fun k hk => ?_⟩
    obtain ⟨m, rfl⟩ : ∃ m, k = m + 1 := ⟨k - 1, by omega⟩
    show windrowref01_Get.l0 (m + 1) w a n x j = _
    rw [windrowref01_Get.l0]
    have e := h1 m (by omega)
    rw [show ((a + j : Nat) : Int) = (a : Int) + (j : Int) by omega] at e
    rw [w64 (x := (a : Int) + j) (by omega) (by omega), w64 (x := (j : Int) + 1) (by omega) (by omega)]
    exact itp (by omega) (bnd e (bnd (h2 m (by omega)) (h3 m (by omega))))

/-- What the program answers, the chapter answers. -/
theorem rget_eo {w a n : Int} (hw : W w) {r : Int × Int} (h : word_Get.f w a n = some r) : Eo (fun k => windrowref01_Get.f k w a n) r := by
  by_cases hf : 0 ≤ a ∧ a < 64 ∧ 1 ≤ n ∧ n ≤ 64 - a
  · obtain ⟨a', rfl⟩ := Int.eq_ofNat_of_zero_le hf.1
    obtain ⟨n', rfl⟩ := Int.eq_ofNat_of_zero_le (show 0 ≤ n by omega)
    rw [get_eq hw (by omega) (by omega)] at h
    obtain rfl := Option.some.inj h
    refine (rget_go hw (a := a') (n := n') (by omega) n' 0 (by omega) 0 W_zero fun i => by rw [tb_zero]; simp).congr fun k => ?_
    unfold windrowref01_Get.f
    rw [rfield_eq, decide_eq_true hf]
    exact bnd rfl (itp rfl rfl)
  · rw [get_no w hf] at h
    obtain rfl := Option.some.inj h
    refine Eo.of fun k => ?_
    unfold windrowref01_Get.f
    rw [rfield_eq, decide_eq_false hf]
    exact bnd rfl (itn (by simp) rfl)

theorem rput_go1 {w v t : Int} (hw : W w) (hv : W v) (ht : W t) {a n : Nat} (han : a + n ≤ 64) (htb : ∀ i, i < 64 → tb t i = if a ≤ i ∧ i < a + n then tb v (i - a) else tb w i) :
    ∀ d j : Nat, j + d = 64 → ∀ x, W x → (∀ i, tb x i = (decide (i < j) && tb t i)) → Eo (fun k => windrowref01_Put.l1 k w (a : Int) (n : Int) v x (j : Int)) (t, 0) := by
  intro d
  induction d with
  | zero =>
    intro j hj x hx hb
    obtain rfl : j = 64 := by omega
    refine Eo.step (g := fun _ => some (t, 0)) (Eo.of fun _ => rfl) fun k _ => ?_
    rw [windrowref01_Put.l1]
    refine itn (by omega) ?_
    have e : x = t := ext hx ht fun i hi => by rw [hb, decide_eq_true hi]; rfl
    rw [e]
  | succ d ih =>
    intro j hj x hx hb
    have hx' : tb x j = false := by rw [hb, decide_eq_false (by omega)]; rfl
    have nxt : ∀ y, (∀ i, tb y i = (tb x i || (decide (i = j) && tb t j))) → ∀ i, tb y i = (decide (i < j + 1) && tb t i) := by
      intro y g2 i
      rw [g2, hb]
      by_cases e : i = j
      · subst e; simp
      · rw [decide_eq_false e]
        by_cases h : i < j
        · rw [decide_eq_true h, decide_eq_true (p := i < j + 1) (by omega)]; simp
        · rw [decide_eq_false h, decide_eq_false (p := i < j + 1) (by omega)]; simp
    obtain ⟨K1, h1⟩ := bit_eo hw j (by omega)
    obtain ⟨K2, h2⟩ := power_eo j (by omega)
    by_cases hf : a ≤ j ∧ j < a + n
    · have e1 : tb t j = tb v (j - a) := by rw [htb j (by omega), if_pos hf]
      obtain ⟨g1, g2⟩ := addref hx hv (p := j) (s := j - a) (by omega) hx' rfl rfl
      rw [← e1] at g2
      obtain ⟨K3, h3⟩ := ih (j + 1) (by omega) _ g1 (nxt _ g2)
      obtain ⟨K4, h4⟩ := bit_eo hv (j - a) (by omega)
      refine ⟨K1 + K2 + K3 + K4 + 2, fun k hk => ?_⟩
      obtain ⟨m, rfl⟩ : ∃ m, k = m + 1 + 1 := ⟨k - 2, by omega⟩
      show windrowref01_Put.l1 (m + 1 + 1) w a n v x j = _
      rw [windrowref01_Put.l1]
      refine itp (by omega) (bnd (h1 (m + 1) (by omega)) (itp (by omega) ?_))
      rw [windrowref01_Put.j2, w64 (x := (a : Int) + n) (by omega) (by omega), w64 (x := (j : Int) - a) (by omega) (by omega), w64 (x := (j : Int) + 1) (by omega) (by omega), decide_eq_true (p := (j : Int) < a + n) (by omega)]
      have e := h4 m (by omega)
      rw [show ((j - a : Nat) : Int) = (j : Int) - (a : Int) by omega] at e
      exact itp rfl (bnd e (bnd (h2 m (by omega)) (h3 m (by omega))))
    · have e1 : tb t j = tb w j := by rw [htb j (by omega), if_neg hf]
      obtain ⟨g1, g2⟩ := addref hx hw (p := j) (s := j) (by omega) hx' rfl rfl
      rw [← e1] at g2
      obtain ⟨K3, h3⟩ := ih (j + 1) (by omega) _ g1 (nxt _ g2)
      refine ⟨K1 + K2 + K3 + 2, fun k hk => ?_⟩
      obtain ⟨m, rfl⟩ : ∃ m, k = m + 1 + 1 := ⟨k - 2, by omega⟩
      show windrowref01_Put.l1 (m + 1 + 1) w a n v x j = _
      rw [windrowref01_Put.l1]
      refine itp (by omega) (bnd (h1 (m + 1) (by omega)) ?_)
      have last : windrowref01_Put.j2 (m + 1) w a n v x j (bi w j) false = some (t, 0) := by
        rw [windrowref01_Put.j2, w64 (x := (j : Int) + 1) (by omega) (by omega)]
        exact itn (by simp) (bnd (h2 m (by omega)) (h3 m (by omega)))
      by_cases ha : a ≤ j
      · refine itp (by omega) ?_
        rw [w64 (x := (a : Int) + n) (by omega) (by omega), decide_eq_false (p := (j : Int) < a + n) (by omega)]
        exact last
      · exact itn (by omega) last

theorem rput_go0 {w v : Int} (hw : W w) (hv : W v) {a n : Nat} (han : a + n ≤ 64) : ∀ d j : Nat, j + d = 64 → n ≤ j → (∀ i, n ≤ i → i < j → tb v i = false) →
    Eo (fun k => windrowref01_Put.l0 k w (a : Int) (n : Int) v (j : Int)) (if v < 2 ^ n then (putW w a n v, 0) else (0, 3)) := by
  intro d
  induction d with
  | zero =>
    intro j hj hnj hz
    obtain rfl : j = 64 := by omega
    have hvn : v < 2 ^ n := (lt_iff hv (by omega)).mpr hz
    rw [if_pos hvn]
    refine (rput_go1 hw hv (putW_W hw hv a n) han (fun i hi => putW_tb hw hv han hvn hi) 64 0 (by omega) 0 W_zero (fun i => by rw [tb_zero]; simp)).step fun k hk => ?_
    rw [windrowref01_Put.l0]
    exact itn (by omega) hk
  | succ d ih =>
    intro j hj hnj hz
    obtain ⟨K1, h1⟩ := bit_eo hv j (by omega)
    cases ht : tb v j with
    | true =>
      have hvn : ¬ v < 2 ^ n := fun z => by
        have := (lt_iff hv (by omega)).mp z j hnj (by omega)
        rw [ht] at this; cases this
      rw [if_neg hvn]
      refine ⟨K1 + 1, fun k hk => ?_⟩
      obtain ⟨m, rfl⟩ : ∃ m, k = m + 1 := ⟨k - 1, by omega⟩
      show windrowref01_Put.l0 (m + 1) w a n v j = _
      rw [windrowref01_Put.l0]
      exact itp (by omega) (bnd (h1 m (by omega)) (itp ((bi_one hv.1 j).mpr ht) rfl))
    | false =>
      obtain ⟨K2, h2⟩ := ih (j + 1) (by omega) (by omega) (fun i h1 h2 => by
        by_cases e : i = j
        · rw [e, ht]
        · exact hz i h1 (by omega))
      refine ⟨K1 + K2 + 1, fun k hk => ?_⟩
      obtain ⟨m, rfl⟩ : ∃ m, k = m + 1 := ⟨k - 1, by omega⟩
      show windrowref01_Put.l0 (m + 1) w a n v j = _
      rw [windrowref01_Put.l0, w64 (x := (j : Int) + 1) (by omega) (by omega)]
      exact itp (by omega) (bnd (h1 m (by omega)) (itn (fun z => by rw [bi_one hv.1 j, ht] at z; cases z) (h2 m (by omega))))

theorem rput_eo {w v a n : Int} (hw : W w) (hv : W v) {r : Int × Int} (h : word_Put.f w a n v = some r) : Eo (fun k => windrowref01_Put.f k w a n v) r := by
  by_cases hf : 0 ≤ a ∧ a < 64 ∧ 1 ≤ n ∧ n ≤ 64 - a
  · obtain ⟨a', rfl⟩ := Int.eq_ofNat_of_zero_le hf.1
    obtain ⟨n', rfl⟩ := Int.eq_ofNat_of_zero_le (show 0 ≤ n by omega)
    rw [put_eq hw hv (by omega) (by omega)] at h
    obtain rfl := Option.some.inj h
    refine (rput_go0 hw hv (a := a') (n := n') (by omega) (64 - n') n' (by omega) (Nat.le_refl _) (fun i h1 h2 => absurd h2 (by omega))).congr fun k => ?_
    unfold windrowref01_Put.f
    rw [rfield_eq, decide_eq_true hf]
    exact bnd rfl (itp rfl rfl)
  · rw [put_no w v hf] at h
    obtain rfl := Option.some.inj h
    refine Eo.of fun k => ?_
    unfold windrowref01_Put.f
    rw [rfield_eq, decide_eq_false hf]
    exact bnd rfl (itn (by simp) rfl)

/-- Every Get and every Put answer, words. -/
theorem get_some {w : Int} (hw : W w) (a n : Int) : ∃ x e, word_Get.f w a n = some (x, e) ∧ W x := by
  by_cases hf : 0 ≤ a ∧ a < 64 ∧ 1 ≤ n ∧ n ≤ 64 - a
  · obtain ⟨a', rfl⟩ := Int.eq_ofNat_of_zero_le hf.1
    obtain ⟨n', rfl⟩ := Int.eq_ofNat_of_zero_le (show 0 ≤ n by omega)
    refine ⟨_, _, get_eq hw (by omega) (by omega), ?_⟩
    have h0 : 0 ≤ w / 2 ^ a' := Int.ediv_nonneg hw.1 (Int.le_of_lt (Int.pow_pos (by omega)))
    have hp : (0 : Int) < 2 ^ n' := Int.pow_pos (by omega)
    have h1 : w / 2 ^ a' ≤ w := Int.ediv_le_self _ hw.1
    have h2 : w / 2 ^ a' % 2 ^ n' ≤ w / 2 ^ a' := emod_le h0 (Int.pow_pos (by omega))
    exact ⟨Int.emod_nonneg _ (by omega), by have := hw.2; omega⟩
  · exact ⟨_, _, get_no w hf, W_zero⟩

theorem put_some {w v : Int} (hw : W w) (hv : W v) (a n : Int) : ∃ x e, word_Put.f w a n v = some (x, e) ∧ W x := by
  by_cases hf : 0 ≤ a ∧ a < 64 ∧ 1 ≤ n ∧ n ≤ 64 - a
  · obtain ⟨a', rfl⟩ := Int.eq_ofNat_of_zero_le hf.1
    obtain ⟨n', rfl⟩ := Int.eq_ofNat_of_zero_le (show 0 ≤ n by omega)
    rw [put_eq hw hv (by omega) (by omega)]
    by_cases h : v < 2 ^ n'
    · exact ⟨_, _, by rw [if_pos h], putW_W hw hv _ _⟩
    · exact ⟨_, _, by rw [if_neg h], W_zero⟩
  · exact ⟨_, _, put_no w v hf, W_zero⟩
end Go.Proofs.YtahmhhbpdgopjaaDoor.Wp

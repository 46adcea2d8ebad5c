/- Many shades of one object: the blocks of all; what holds of the arena and of them behind each step. -/
import Derived.Test.YtcnledehnefldaaFns
import Derived.Test.YtcnledehnefldaaLy
namespace Go.Proofs.Ytcnledehnefldaa.Ar
open Go Go.RowKit Go.Proofs.Ytcnledehnefldaa.Hp Go.Proofs.Ytcnledehnefldaa.PH Go.Proofs.Ytcnledehnefldaa.Eo
open Go.Proofs.YtcnledehnefldaaW.PrintLast (i64_w)
set_option linter.unusedVariables false
set_option linter.unusedSimpArgs false
set_option linter.unusedSectionVars false

/-- A granted access to a cell that is there. -/
theorem acc_yes {s : AS} {who kind put : Int} {q : Nat} (hq : q < s.cells.length) : (s.acc true who kind q 0 put).2 = s.cells.getD q 0 ∧ (s.acc true who kind q 0 put).1.cells = s.cells.set q (leftOf kind (s.cells.getD q 0) 0 put) := by
  have h : (true = true ∧ s.has (q : Int) = true) := ⟨rfl, decide_eq_true ⟨by omega, by omega⟩⟩
  unfold AS.acc
  rw [if_pos h]
  simp only [AS.done, Int.toNat_natCast, true_and]

/-! ### lists of truths -/
def cntT : List Bool → Nat
  | [] => 0
  | b :: l => (if b = true then 1 else 0) + cntT l
def anyT : List Bool → Bool
  | [] => false
  | b :: l => b || anyT l
theorem cntT_set : ∀ {l : List Bool} {t : Nat} (v : Bool), l[t]? = some false → cntT (l.set t v) = cntT l + (if v = true then 1 else 0)
  | [], t, v, h => by simp at h
  | b :: l, 0, v, h => by
    simp at h; subst h
    simp [cntT]; omega
  | b :: l, t + 1, v, h => by
    have := cntT_set (l := l) (t := t) v (by simpa using h)
    simp only [List.set_cons_succ, cntT, this]; omega
theorem anyT_set : ∀ {l : List Bool} {t : Nat} {v : Bool}, l[t]? = some v → anyT (l.set t true) = true
  | [], t, v, h => by simp at h
  | b :: l, 0, v, h => by simp [anyT]
  | b :: l, t + 1, v, h => by
    have := anyT_set (l := l) (t := t) (v := v) (by simpa using h)
    simp only [List.set_cons_succ, anyT, this, Bool.or_true]
theorem anyT_of : ∀ {l : List Bool} {t : Nat}, l[t]? = some true → anyT l = true
  | [], t, h => by simp at h
  | b :: l, 0, h => by simp at h; subst h; rfl
  | b :: l, t + 1, h => by
    have := anyT_of (l := l) (t := t) (by simpa using h)
    simp only [anyT, this, Bool.or_true]
theorem cntT_none : ∀ {l : List Bool}, anyT l = false → cntT l = 0
  | [], _ => rfl
  | b :: l, h => by
    simp only [anyT, Bool.or_eq_false_iff] at h
    simp only [cntT, h.1, cntT_none h.2]; rfl
theorem cntT_snoc (b : Bool) : ∀ l : List Bool, cntT (l ++ [b]) = cntT l + (if b = true then 1 else 0)
  | [] => by simp [cntT]
  | a :: l => by simp only [List.cons_append, cntT, cntT_snoc b l]; omega
theorem map_set_same {α β : Type} (f : α → β) {l : List α} {t : Nat} {x y : α} (h : l[t]? = some x) (e : f y = f x) : (l.set t y).map f = l.map f := by
  rw [List.map_set, e]
  apply List.ext_getElem?
  intro i
  by_cases hi : i = t
  · subst hi
    obtain ⟨hl, _⟩ := List.getElem?_eq_some_iff.1 h
    rw [List.getElem?_set_self (by simpa using hl), List.getElem?_map, h]; rfl
  · rw [List.getElem?_set_ne (fun e => hi e.symm)]
theorem getD_set {l : List Int} {q p : Nat} {v : Int} : (l.set q v).getD p 0 = if p = q ∧ q < l.length then v else l.getD p 0 := by
  rw [List.getD_eq_getElem?_getD, List.getD_eq_getElem?_getD]
  by_cases e : p = q
  · subst e
    by_cases hl : p < l.length
    · rw [List.getElem?_set_self hl, if_pos ⟨rfl, hl⟩]; rfl
    · rw [if_neg (fun z => hl z.2), List.getElem?_eq_none (by rw [List.length_set]; omega), List.getElem?_eq_none (by omega)]
  · rw [if_neg (fun z => e z.1), List.getElem?_set_ne (fun z => e z.symm)]

/-! ### the invariant -/
def onL (P T R pg b t : Nat) : Pl := ⟨((Lay.tb T R + 2 * P + pg : Nat) : Int), (b : Int), ((16 + t * (5 + R) + 4 : Nat) : Int), ((16 + t * (5 + R) + 3 : Nat) : Int), fun n => ((16 + t * (5 + R) + 5 + (n % (R : Int)).toNat : Nat) : Int)⟩
structure SOk (P T R : Nat) (ref : Int) (t : Nat) (x : SS) : Prop where
  eP : x.P = P
  eT : x.T = T
  eR : x.R = R
  et : x.t = t
  er : x.ref = ref
  ok : x.ok
  fd : x.fresh = true → x.done = true
  d0 : x.at_ = 0 → x.done = false
  d1 : x.at_ ≠ 0 → x.done = true
  tl : 0 ≤ x.tl ∧ x.tl < 18446744073709551616
structure OneI (P T R pg b : Nat) (ref : Int) (set : Bool) (s : AS) (xs : List SS) : Prop where
  len : s.cells.length = Lay.cl P T R
  cw : ∀ q, 0 ≤ s.cells.getD q 0 ∧ s.cells.getD q 0 < 18446744073709551616
  mks : ∀ j, j < P → s.cells.getD (Lay.tb T R + 2 * P + j) 0 = if j = pg ∧ (set || anyT (xs.map SS.done)) = true then 2 ^ b else 0
  oks : ∀ (t : Nat) x, xs[t]? = some x → SOk P T R ref t x
  cnt : cntT (xs.map SS.fresh) = if (!set && anyT (xs.map SS.done)) = true then 1 else 0

theorem bit_or {b : Nat} (hb : b < 64) : leftOf 5 0 0 (bitOf (b : Int)) = 2 ^ b ∧ leftOf 5 (2 ^ b) 0 (bitOf (b : Int)) = 2 ^ b ∧ bitIn 0 (b : Int) = true ∧ bitIn (2 ^ b) (b : Int) = false :=
  (by decide +kernel : ∀ b : Fin 64, leftOf 5 0 0 (bitOf ((b.1 : Nat) : Int)) = 2 ^ b.1 ∧ leftOf 5 (2 ^ b.1) 0 (bitOf ((b.1 : Nat) : Int)) = 2 ^ b.1 ∧ bitIn 0 ((b.1 : Nat) : Int) = true ∧ bitIn (2 ^ b.1) ((b.1 : Nat) : Int) = false) ⟨b, hb⟩
theorem pow_lt {b : Nat} (hb : b < 64) : (0 : Int) ≤ 2 ^ b ∧ (2 : Int) ^ b < 18446744073709551616 :=
  (by decide +kernel : ∀ b : Fin 64, (0 : Int) ≤ 2 ^ b.1 ∧ (2 : Int) ^ b.1 < 18446744073709551616) ⟨b, hb⟩
theorem left1 (x y z : Int) : leftOf 1 x y z = x := rfl
theorem left2 (x y z : Int) : leftOf 2 x y z = z := rfl
theorem wrap_range (x : Int) : 0 ≤ IntKind.u64.wrap x ∧ IntKind.u64.wrap x < 18446744073709551616 := by rw [u64w]; omega

section
variable {P T R pg b : Nat} {ref : Int} {set : Bool} (hr : Lay.right P T R) (hpg : pg < P) (hb : b < 64) (href : ref = ((Lay.bs P T R + 64 * pg + b : Nat) : Int))
include hr hpg hb href

theorem one_pl {x : SS} {t : Nat} (ht : t < T) (hx : SOk P T R ref t x) : PlOk (onL P T R pg b t) x := by
  have hcl := Lay.cl_le hr
  have hcb : Lay.cl P T R = Lay.bs P T R + 64 * P := rfl
  refine ⟨⟨(pg : Int), ?_, ?_⟩, Int.natCast_nonneg _, ?_, ?_⟩
  · rw [hx.eP, hx.eT, hx.eR, hx.er, href, i64_w, w64 (by omega) (by omega), Lay.p_place hr (by omega), if_pos (by omega)]
    congr 1
    rw [Prod.mk.injEq]
    show _ ∧ _ = (b : Int)
    omega
  · rw [hx.eP, hx.eT, hx.eR, Lay.p_mark hr, if_pos (by omega)]
    congr 1
  · rw [hx.eP, hx.eT, hx.eR, hx.et, Lay.p_tail hr, if_pos (by omega)]
    congr 1
  · rw [hx.eP, hx.eT, hx.eR, hx.et, Lay.p_head hr, if_pos (by omega)]
    congr 1

theorem one_slot {x : SS} {t : Nat} (ht : t < T) (hx : SOk P T R ref t x) : layout_Plan_Slot.f x.P x.T x.R x.t x.tl = some ((onL P T R pg b t).qS x.tl) := by
  have h1 := hx.tl
  have hR := hr.2.2.2.2.1
  rw [hx.eP, hx.eT, hx.eR, hx.et, Lay.p_slot hr h1.1 (by omega), if_pos (by omega)]
  have hm := Int.emod_nonneg x.tl (show (R : Int) ≠ 0 by omega)
  congr 1
  show _ = ((16 + t * (5 + R) + 5 + (x.tl % (R : Int)).toNat : Nat) : Int)
  push_cast
  omega

omit href in
theorem q_lt {t j : Nat} (ht : t < T) (hj : j < 5 + R) : 16 + t * (5 + R) + j < Lay.tb T R ∧ Lay.tb T R + 2 * P + pg < Lay.cl P T R ∧ Lay.tb T R < Lay.cl P T R := by
  have h1 : 16 + t * (5 + R) + j < Lay.tb T R := by
    unfold Lay.tb
    have := Nat.mul_le_mul_right (5 + R) (show t + 1 ≤ T from ht)
    rw [Nat.add_mul] at this
    omega
  have hbs := Lay.bs_ge P T R
  have hcb : Lay.cl P T R = Lay.bs P T R + 64 * P := rfl
  exact ⟨h1, by omega, by omega⟩

/-- An access that is none of a mark's: cells below the tables. -/
theorem one_low {s : AS} {xs : List SS} (h : OneI P T R pg b ref set s xs) {t : Nat} {x y : SS} (hx : xs[t]? = some x) {who kind put : Int} {q : Nat} (hq : q < Lay.tb T R) (hk : kind = 1 ∨ kind = 2 ∧ 0 ≤ put ∧ put < 18446744073709551616)
    (hy : SOk P T R ref t y) (ed : y.done = x.done) (ef : y.fresh = x.fresh) : OneI P T R pg b ref set (s.acc true who kind q 0 put).1 (xs.set t y) := by
  have hbs := Lay.bs_ge P T R
  have hcb : Lay.cl P T R = Lay.bs P T R + 64 * P := rfl
  obtain ⟨e1, e2⟩ := acc_yes (s := s) (who := who) (kind := kind) (put := put) (q := q) (by rw [h.len]; omega)
  have md := map_set_same SS.done hx ed
  have mf := map_set_same SS.fresh hx ef
  refine ⟨by rw [e2, List.length_set]; exact h.len, fun p => ?_, fun j hj => ?_, fun t' x' hx' => ?_, by rw [mf, md]; exact h.cnt⟩
  · rw [e2, getD_set]
    split
    · rcases hk with rfl | ⟨rfl, h1, h2⟩
      · rw [left1]; exact h.cw q
      · rw [left2]; exact ⟨h1, h2⟩
    · exact h.cw p
  · rw [e2, getD_set, if_neg (by omega), md]; exact h.mks j hj
  · by_cases e : t' = t
    · subst e
      obtain ⟨hl, _⟩ := List.getElem?_eq_some_iff.1 hx
      rw [List.getElem?_set_self hl] at hx'
      obtain rfl := Option.some.inj hx'
      exact hy
    · rw [List.getElem?_set_ne (fun z => e z.symm)] at hx'
      exact h.oks t' x' hx'

theorem one_step {s : AS} {xs : List SS} (h : OneI P T R pg b ref set s xs) {t : Nat} (ht : t < T) {x : SS} (hx : xs[t]? = some x) {who : Int} : OneI P T R pg b ref set (shStep (onL P T R pg b t) who s x).1 (xs.set t (shStep (onL P T R pg b t) who s x).2) := by
  have hX := h.oks t x hx
  have same := shStep_same (onL P T R pg b t) who s x
  have okk := shStep_ok (onL P T R pg b t) who s hX.ok
  have base : ∀ y : SS, y = (shStep (onL P T R pg b t) who s x).2 → (y.fresh = true → y.done = true) → (y.at_ = 0 → y.done = false) → (y.at_ ≠ 0 → y.done = true) → (0 ≤ y.tl ∧ y.tl < 18446744073709551616) → SOk P T R ref t y := by
    rintro y rfl a1 a2 a3 a4
    exact ⟨same.1.trans hX.eP, same.2.1.trans hX.eT, same.2.2.1.trans hX.eR, same.2.2.2.1.trans hX.et, same.2.2.2.2.trans hX.er, okk, a1, a2, a3, a4⟩
  have hcwq : ∀ (kind : Int) (q : Nat) (put : Int), q < Lay.tb T R → 0 ≤ (s.acc true who kind q 0 put).2 ∧ (s.acc true who kind q 0 put).2 < 18446744073709551616 := fun kind q put hq => by
    have hbs := Lay.bs_ge P T R
    have hcb : Lay.cl P T R = Lay.bs P T R + 64 * P := rfl
    rw [(acc_yes (s := s) (who := who) (kind := kind) (put := put) (q := q) (by rw [h.len]; omega)).1]
    exact h.cw q
  have hok := hX.ok
  unfold SS.ok at hok
  have q4 := q_lt (b := b) hr hpg hb (j := 4) ht (by omega)
  have q3 := q_lt (b := b) hr hpg hb (j := 3) ht (by omega)
  rcases hok with ⟨h0, hdn, hfu, hpt⟩ | ⟨h1, hfu, hpat⟩ | h2 | h3
  · -- the mark is set
    have hfr : x.fresh = false := by cases hf : x.fresh with | false => rfl | true => rw [hX.fd hf] at hdn; cases hdn
    obtain ⟨a1, a2⟩ := acc_yes (s := s) (who := who) (kind := 5) (put := bitOf (b : Int)) (q := Lay.tb T R + 2 * P + pg) (by rw [h.len]; exact q4.2.1)
    have hm := h.mks pg hpg
    obtain ⟨b1, b2, b3, b4⟩ := bit_or hb
    obtain ⟨p1, p2⟩ := pow_lt hb
    have hds : (xs.map SS.done)[t]? = some false := by rw [List.getElem?_map, hx]; exact congrArg some hdn
    have hfs : (xs.map SS.fresh)[t]? = some false := by rw [List.getElem?_map, hx]; exact congrArg some hfr
    obtain ⟨D, hD⟩ : ∃ D, D = (set || anyT (xs.map SS.done)) := ⟨_, rfl⟩
    rw [← hD] at hm
    have hseen : s.cells.getD (Lay.tb T R + 2 * P + pg) 0 = if D = true then 2 ^ b else 0 := by rw [hm]; by_cases e : D = true <;> simp [e]
    have hbit : bitIn (s.acc true who 5 ((Lay.tb T R + 2 * P + pg : Nat) : Int) 0 (bitOf (b : Int))).2 (b : Int) = !D := by
      rw [a1, hseen]; cases D
      · exact b3
      · exact b4
    have hst : shStep (onL P T R pg b t) who s x = ((s.acc true who 5 ((Lay.tb T R + 2 * P + pg : Nat) : Int) 0 (bitOf (b : Int))).1, { x with at_ := if (!D) = true then 1 else 3, done := true, fresh := !D }) := by
      unfold shStep
      rw [if_pos h0]
      unfold shMark
      show ((s.acc true who 5 ((Lay.tb T R + 2 * P + pg : Nat) : Int) 0 (bitOf (b : Int))).1, ({ x with at_ := if bitIn (s.acc true who 5 ((Lay.tb T R + 2 * P + pg : Nat) : Int) 0 (bitOf (b : Int))).2 (b : Int) = true then 1 else 3, done := true, fresh := bitIn (s.acc true who 5 ((Lay.tb T R + 2 * P + pg : Nat) : Int) 0 (bitOf (b : Int))).2 (b : Int) } : SS)) = _
      rw [hbit]
    have hy : SOk P T R ref t (shStep (onL P T R pg b t) who s x).2 := base _ rfl (fun _ => by rw [hst]) (fun z => by
      rw [hst] at z; simp only at z; split at z <;> omega) (fun _ => by rw [hst]) (by rw [hst]; exact hX.tl)
    have anyD : anyT ((xs.map SS.done).set t true) = true := anyT_set hds
    refine ⟨?_, fun p => ?_, fun j hj => ?_, fun t' x' hx' => ?_, ?_⟩
    · rw [hst]; show (s.acc true who 5 _ 0 _).1.cells.length = _; rw [a2, List.length_set]; exact h.len
    · rw [hst]; show 0 ≤ (s.acc true who 5 _ 0 _).1.cells.getD p 0 ∧ _; rw [a2, getD_set]
      split
      · rw [hseen]; cases D
        · rw [if_neg (by decide), b1]; exact ⟨p1, p2⟩
        · rw [if_pos rfl, b2]; exact ⟨p1, p2⟩
      · exact h.cw p
    · rw [hst]; show (s.acc true who 5 _ 0 _).1.cells.getD _ 0 = _; rw [a2, getD_set, List.map_set]
      show _ = if j = pg ∧ (set || anyT ((xs.map SS.done).set t true)) = true then 2 ^ b else 0
      rw [anyD, Bool.or_true]
      by_cases e : j = pg
      · subst e
        rw [if_pos ⟨rfl, by rw [h.len]; exact q4.2.1⟩, if_pos ⟨rfl, rfl⟩, hseen]; cases D
        · rw [if_neg (by decide), b1]
        · rw [if_pos rfl, b2]
      · rw [if_neg (by omega), if_neg (fun z => e z.1), h.mks j hj, if_neg (fun z => e z.1)]
    · by_cases e : t' = t
      · subst e
        obtain ⟨hl, _⟩ := List.getElem?_eq_some_iff.1 hx
        rw [List.getElem?_set_self hl] at hx'
        obtain rfl := Option.some.inj hx'
        exact hy
      · rw [List.getElem?_set_ne (fun z => e z.symm)] at hx'
        exact h.oks t' x' hx'
    · rw [hst, List.map_set, List.map_set]
      show cntT ((xs.map SS.fresh).set t (!D)) = if (!set && anyT ((xs.map SS.done).set t true)) = true then 1 else 0
      rw [cntT_set _ hfs, anyD, h.cnt, Bool.and_true]
      cases hset : set with
      | true => rw [hset, Bool.true_or] at hD; subst hD; rfl
      | false =>
        rw [hset, Bool.false_or] at hD
        rw [← hD]
        cases D <;> rfl
  · -- the push goes on
    have hd1 := hX.d1 (by omega)
    have hshow : shStep (onL P T R pg b t) who s x = shPush (onL P T R pg b t) who s x := by unfold shStep; rw [if_neg (by omega), if_pos h1]
    have hd2 : ∀ z : Int, z ≠ 0 → x.fresh = true → x.done = true := fun _ _ => hX.fd
    rcases hpat with hp | hp | hp | hp
    · have hst : shStep (onL P T R pg b t) who s x = ((s.acc true who 1 ((16 + t * (5 + R) + 4 : Nat) : Int) 0 0).1, { x with pat := 1, tl := (s.acc true who 1 ((16 + t * (5 + R) + 4 : Nat) : Int) 0 0).2 }) := by
        rw [hshow]; unfold shPush; rw [if_pos hp]; rfl
      have hy : SOk P T R ref t (shStep (onL P T R pg b t) who s x).2 := base _ rfl (by rw [hst]; exact hX.fd) (by rw [hst]; exact hX.d0) (by rw [hst]; exact hX.d1) (by rw [hst]; exact hcwq 1 _ 0 q4.1)
      rw [hst] at hy ⊢
      exact one_low hr hpg hb href h hx q4.1 (.inl rfl) hy rfl rfl
    · by_cases hz : IntKind.u64.wrap x.R ≤ IntKind.u64.wrap (x.tl - (s.acc true who 1 ((16 + t * (5 + R) + 3 : Nat) : Int) 0 0).2)
      · have hst : shStep (onL P T R pg b t) who s x = ((s.acc true who 1 ((16 + t * (5 + R) + 3 : Nat) : Int) 0 0).1, { x with pat := 4, hd := (s.acc true who 1 ((16 + t * (5 + R) + 3 : Nat) : Int) 0 0).2, full := true, at_ := 2 }) := by
          rw [hshow]; unfold shPush; rw [if_neg (by omega), if_pos hp]; exact if_pos hz
        have hy : SOk P T R ref t (shStep (onL P T R pg b t) who s x).2 := base _ rfl (by rw [hst]; exact hX.fd) (by rw [hst]; exact fun z => absurd (show (2 : Int) = 0 from z) (by decide)) (by rw [hst]; exact fun _ => hd1) (by rw [hst]; exact hX.tl)
        rw [hst] at hy ⊢
        exact one_low hr hpg hb href h hx q3.1 (.inl rfl) hy rfl rfl
      · have hst : shStep (onL P T R pg b t) who s x = ((s.acc true who 1 ((16 + t * (5 + R) + 3 : Nat) : Int) 0 0).1, { x with pat := 2, hd := (s.acc true who 1 ((16 + t * (5 + R) + 3 : Nat) : Int) 0 0).2 }) := by
          rw [hshow]; unfold shPush; rw [if_neg (by omega), if_pos hp]; exact if_neg hz
        have hy : SOk P T R ref t (shStep (onL P T R pg b t) who s x).2 := base _ rfl (by rw [hst]; exact hX.fd) (by rw [hst]; exact hX.d0) (by rw [hst]; exact hX.d1) (by rw [hst]; exact hX.tl)
        rw [hst] at hy ⊢
        exact one_low hr hpg hb href h hx q3.1 (.inl rfl) hy rfl rfl
    · have hst : shStep (onL P T R pg b t) who s x = ((s.acc true who 2 ((16 + t * (5 + R) + 5 + (x.tl % (R : Int)).toNat : Nat) : Int) 0 x.ref).1, { x with pat := 3 }) := by
        rw [hshow]; unfold shPush; rw [if_neg (by omega), if_neg (by omega), if_pos hp]; rfl
      have hy : SOk P T R ref t (shStep (onL P T R pg b t) who s x).2 := base _ rfl (by rw [hst]; exact hX.fd) (by rw [hst]; exact hX.d0) (by rw [hst]; exact hX.d1) (by rw [hst]; exact hX.tl)
      have hR := hr.2.2.2.2.1
      have hml := Int.emod_lt_of_pos x.tl (show (0 : Int) < R by omega)
      have hm0 := Int.emod_nonneg x.tl (show (R : Int) ≠ 0 by omega)
      have qs := q_lt (b := b) hr hpg hb (j := 5 + (x.tl % (R : Int)).toNat) ht (by omega)
      have hcl := Lay.cl_le hr
      have hcb : Lay.cl P T R = Lay.bs P T R + 64 * P := rfl
      have e5 : 16 + t * (5 + R) + 5 + (x.tl % (R : Int)).toNat = 16 + t * (5 + R) + (5 + (x.tl % (R : Int)).toNat) := by omega
      rw [hst] at hy ⊢
      exact one_low hr hpg hb href h hx (by rw [e5]; exact qs.1) (.inr ⟨rfl, by rw [hX.er, href]; omega, by rw [hX.er, href]; omega⟩) hy rfl rfl
    · have hst : shStep (onL P T R pg b t) who s x = ((s.acc true who 2 ((16 + t * (5 + R) + 4 : Nat) : Int) 0 (IntKind.u64.wrap (x.tl + 1))).1, { x with pat := 4, at_ := 3 }) := by
        rw [hshow]; unfold shPush; rw [if_neg (by omega), if_neg (by omega), if_neg (by omega)]; rfl
      have hy : SOk P T R ref t (shStep (onL P T R pg b t) who s x).2 := base _ rfl (by rw [hst]; exact hX.fd) (by rw [hst]; exact fun z => absurd (show (3 : Int) = 0 from z) (by decide)) (by rw [hst]; exact fun _ => hd1) (by rw [hst]; exact hX.tl)
      rw [hst] at hy ⊢
      exact one_low hr hpg hb href h hx q4.1 (.inr ⟨rfl, (wrap_range _).1, (wrap_range _).2⟩) hy rfl rfl
  · have hd1 := hX.d1 (by omega)
    have hst : shStep (onL P T R pg b t) who s x = ((s.acc true who 2 ((4 : Nat) : Int) 0 1).1, { x with lost := true, at_ := 3 }) := by
      unfold shStep; rw [if_neg (by omega), if_neg (by omega), if_pos h2]; rfl
    have hy : SOk P T R ref t (shStep (onL P T R pg b t) who s x).2 := base _ rfl (by rw [hst]; exact hX.fd) (by rw [hst]; exact fun z => absurd (show (3 : Int) = 0 from z) (by decide)) (by rw [hst]; exact fun _ => hd1) (by rw [hst]; exact hX.tl)
    rw [hst] at hy ⊢
    exact one_low hr hpg hb href h hx (by unfold Lay.tb; omega) (.inr ⟨rfl, by decide, by decide⟩) hy rfl rfl
  · have hst : shStep (onL P T R pg b t) who s x = (s, x) := by
      unfold shStep; rw [if_neg (by omega), if_neg (by omega), if_neg (by omega)]
    rw [hst]
    have : xs.set t x = xs := by
      apply List.ext_getElem?
      intro i
      by_cases hi : i = t
      · subst hi
        obtain ⟨hl, _⟩ := List.getElem?_eq_some_iff.1 hx
        rw [List.getElem?_set_self hl, hx]
      · rw [List.getElem?_set_ne (fun e => hi e.symm)]
    rw [this]; exact h

theorem one_run {s : AS} {xs : List SS} (h : OneI P T R pg b ref set s xs) {t : Nat} (ht : t < T) {x : SS} (hx : xs[t]? = some x) {who : Int} : ∀ k, OneI P T R pg b ref set (shRun (onL P T R pg b t) who s x k).1 (xs.set t (shRun (onL P T R pg b t) who s x k).2)
  | 0 => by
    have : xs.set t x = xs := by
      apply List.ext_getElem?
      intro i
      by_cases hi : i = t
      · subst hi
        obtain ⟨hl, _⟩ := List.getElem?_eq_some_iff.1 hx
        rw [List.getElem?_set_self hl, hx]
      · rw [List.getElem?_set_ne (fun e => hi e.symm)]
    show OneI P T R pg b ref set s (xs.set t x)
    rw [this]; exact h
  | k + 1 => by
    obtain ⟨hl, _⟩ := List.getElem?_eq_some_iff.1 hx
    have := one_step hr hpg hb href (one_run h ht hx (who := who) k) ht (x := (shRun (onL P T R pg b t) who s x k).2) (by rw [List.getElem?_set_self hl]) (who := who)
    rw [List.set_set] at this
    exact this
end

/-! ### a shade's end -/
def SS.rem (x : SS) : Int := if x.at_ = 0 then 6 else if x.at_ = 1 then 5 - x.pat else if x.at_ = 2 then 1 else 0
theorem rem_step (L : Pl) (who : Int) (s : AS) {x : SS} (h : x.ok) (h3 : x.at_ ≠ 3) : (shStep L who s x).2.rem < x.rem := by
  obtain ⟨P, T, R, t, ref, at_, lost, done, fresh, pat, hd, tl, full⟩ := x
  unfold SS.ok at h
  simp only at h h3
  rcases h with ⟨rfl, h2, h3', rfl⟩ | ⟨rfl, h2, rfl | rfl | rfl | rfl⟩ | rfl | rfl
  · show (SS.rem { P := P, T := T, R := R, t := t, ref := ref, at_ := if bitIn (s.acc true who 5 L.q 0 (bitOf L.b)).2 L.b = true then 1 else 3, lost := lost, done := true, fresh := bitIn (s.acc true who 5 L.q 0 (bitOf L.b)).2 L.b, pat := 0, hd := hd, tl := tl, full := full }) < (6 : Int)
    unfold SS.rem
    simp only
    split <;> simp
  · show (5 : Int) - 1 < 5 - 0
    decide
  · have e : shStep L who s ⟨P, T, R, t, ref, 1, lost, done, fresh, 1, hd, tl, full⟩ = (if IntKind.u64.wrap R ≤ IntKind.u64.wrap (tl - (s.acc true who 1 L.qH 0 0).2) then ((s.acc true who 1 L.qH 0 0).1, ⟨P, T, R, t, ref, 2, lost, done, fresh, 4, (s.acc true who 1 L.qH 0 0).2, tl, true⟩) else ((s.acc true who 1 L.qH 0 0).1, ⟨P, T, R, t, ref, 1, lost, done, fresh, 2, (s.acc true who 1 L.qH 0 0).2, tl, full⟩)) := rfl
    rw [e]
    split
    · show (1 : Int) < 5 - 1; decide
    · show (5 : Int) - 2 < 5 - 1; decide
  · show (5 : Int) - 3 < 5 - 2
    decide
  · show (0 : Int) < 5 - 3
    decide
  · show (0 : Int) < 1
    decide
  · exact absurd rfl h3
theorem shRun_shift (L : Pl) (who : Int) (s : AS) (x : SS) : ∀ k, shRun L who s x (k + 1) = shRun L who (shStep L who s x).1 (shStep L who s x).2 k
  | 0 => rfl
  | k + 1 => by
    show shStep L who (shRun L who s x (k + 1)).1 (shRun L who s x (k + 1)).2 = _
    rw [shRun_shift L who s x k]; rfl
theorem ends (L : Pl) (who : Int) : ∀ (r : Nat) (s : AS) (x : SS), x.ok → x.at_ ≠ 3 → x.rem ≤ r → ∃ n, 1 ≤ n ∧ n ≤ r ∧ (shRun L who s x n).2.at_ = 3 ∧ ∀ k, k < n → (shRun L who s x k).2.at_ ≠ 3
  | 0, s, x, h, h3, hr => by
    have h1 := rem_step L who s h h3
    have h2 : 0 ≤ (shStep L who s x).2.rem := by
      have := shStep_ok L who s h
      unfold SS.ok at this
      unfold SS.rem
      repeat' split
      all_goals omega
    omega
  | r + 1, s, x, h, h3, hr => by
    have h1 := rem_step L who s h h3
    by_cases e : (shStep L who s x).2.at_ = 3
    · exact ⟨1, Nat.le_refl _, by omega, e, fun k hk => by obtain rfl : k = 0 := by omega
                                                           exact h3⟩
    · obtain ⟨n, n1, n2, n3, n4⟩ := ends L who r (shStep L who s x).1 (shStep L who s x).2 (shStep_ok L who s h) e (by omega)
      refine ⟨n + 1, by omega, by omega, by rw [shRun_shift]; exact n3, fun k hk => ?_⟩
      cases k with
      | zero => exact h3
      | succ k => rw [shRun_shift]; exact n4 k (by omega)
theorem ends6 (L : Pl) (who : Int) (s : AS) {x : SS} (h : x.ok) (h3 : x.at_ ≠ 3) : ∃ n, 1 ≤ n ∧ n ≤ 6 ∧ (shRun L who s x n).2.at_ = 3 ∧ ∀ k, k < n → (shRun L who s x k).2.at_ ≠ 3 := by
  refine ends L who 6 s x h h3 ?_
  unfold SS.ok at h
  unfold SS.rem
  repeat' split
  all_goals omega
end Go.Proofs.Ytcnledehnefldaa.Ar

/- Find, Field, Type: what a table tells is what the chapter says. -/
import Derived.Test.YteankgbcmfkfnaaPc
import Derived.Test.YteankgbcmfkfnaaCd
import Derived.Test.YteankgbcmfkfnaaCls
import Derived.Test.YteankgbcmfkfnaaPHx7
namespace Go.Proofs.Yteankgbcmfkfnaa.Cl
open Go Go.RowKit Go.Proofs.Yteankgbcmfkfnaa.Hp Go.Proofs.Yteankgbcmfkfnaa.PH Go.Proofs.Yteankgbcmfkfnaa.Eo
open Go.Proofs.YteankgbcmfkfnaaW.PrintWords (bt Kd Drawn0)
open Go.Proofs.YteankgbcmfkfnaaW.PrintWords.Kd (C_below R_reads R_lower)
set_option linter.unusedVariables false
set_option linter.unusedSimpArgs false

def fdC : Nat → List S34 → List UInt8 → Int × Int
  | _, [], _ => (0, 21)
  | i, x :: r, s => if nk x.f0 = s then ((i : Int), 0) else fdC (i + 1) r s
def fdF : Nat → List S41 → List UInt8 → Int × Int
  | _, [], _ => (0, 22)
  | i, x :: r, s => if nk x.f0 = s then ((i : Int), 0) else fdF (i + 1) r s
def fieldA (L : List S34) (c : Int) (s : ByteArray) : Int × Int := if 0 ≤ c ∧ c < L.length then fdF 0 (rd_T34 L c).f1 (nk s) else (0, 21)
def typeA (L : List S34) (c f : Int) : Int × Int := if 0 ≤ c ∧ c < L.length then (if 0 ≤ f ∧ f < (rd_T34 L c).f1.length then ((rd_T41 (rd_T34 L c).f1 f).f1, 0) else (0, 22)) else (0, 21)
theorem at34 {w : World} {A : Option Addr} {n : Nat} {xs : List S34} (h : Kd.C k34 w A n xs) (k : Nat) (hk : k < n) : ∃ ad A1 c1, A = some ad ∧ w.cell? (ad.add (k * 2)) = some (.string (rd_T34 xs k).f0) ∧ w.cell? ⟨(ad.add (k * 2)).block, (ad.add (k * 2)).off + 1, none⟩ = some (.slice A1 (rd_T34 xs k).f1.length c1) ∧ (rd_T34 xs k).f1.length ≤ c1 ∧ Kd.C k41 w A1 (rd_T34 xs k).f1.length (rd_T34 xs k).f1 := by
  obtain ⟨ad, A1, c1, hA, r0, r1, h2, h3⟩ := at_T34 h (k : Int) (by omega) (by omega)
  rw [Int.toNat_natCast] at r0 r1
  exact ⟨ad, A1, c1, hA, r0, r1, h2, h3⟩
theorem at41 {w : World} {A : Option Addr} {n : Nat} {xs : List S41} (h : Kd.C k41 w A n xs) (k : Nat) (hk : k < n) : ∃ ad, A = some ad ∧ w.cell? (ad.add (k * 2)) = some (.string (rd_T41 xs k).f0) ∧ w.cell? ⟨(ad.add (k * 2)).block, (ad.add (k * 2)).off + 1, none⟩ = some (.int .i64 (rd_T41 xs k).f1) := by
  obtain ⟨ad, hA, r0, r1⟩ := at_T41 h (k : Int) (by omega) (by omega)
  rw [Int.toNat_natCast] at r0 r1
  exact ⟨ad, hA, r0, r1⟩

theorem find_l0 (l : List S34) (s : ByteArray) (h16 : l.length ≤ 16) : ∀ (d i : Nat), i + d = l.length → Eo (fun k => windrowref10_Find.l0 k l s (i : Nat)) (fdC i (l.drop i) (nk s))
  | 0, i, h => by
    rw [List.drop_eq_nil_of_le (by omega)]
    refine (Eo.of (g := fun _ => some (0, 21)) fun _ => rfl).round fun k => ?_
    rw [windrowref10_Find.l0, if_neg (by omega)]
  | d + 1, i, h => by
    have ih := find_l0 l s h16 d (i + 1) (by omega)
    rw [drop_cons34 l i (by omega)]
    show Eo _ (if nk (rd_T34 l (i : Nat)).f0 = nk s then ((i : Int), 0) else fdC (i + 1) (l.drop (i + 1)) (nk s))
    by_cases he : nk (rd_T34 l (i : Nat)).f0 = nk s
    · rw [if_pos he]
      refine (Eo.of (g := fun _ => some ((i : Int), 0)) fun _ => rfl).round fun k => ?_
      rw [windrowref10_Find.l0, if_pos (by omega), if_pos (by omega), toList_eq, toList_eq, if_pos he]
    · rw [if_neg he]
      refine ih.round fun k => ?_
      rw [windrowref10_Find.l0, if_pos (by omega), if_pos (by omega), toList_eq, toList_eq, if_neg he, w64 (by omega) (by omega)]
      rfl
theorem rfind_call (A : Option Addr) (cp : Nat) (l : List S34) (s : ByteArray) (w : World) (hr : Kd.C k34 w A l.length l) (hc : l.length ≤ cp) (h16 : l.length ≤ 16) : Calls Try.prog 20 #[.slice A l.length cp, .string s] w fun e w' => e = .returned (.tuple #[.int .i64 (fdC 0 l (nk s)).1, .int .i64 (fdC 0 l (nk s)).2]) ∧ Below w.heap.size w w' := by
  obtain ⟨k, hk⟩ := (find_l0 l s h16 l.length 0 (by omega)).get
  exact (windrowref10_Find.calls k A cp l s (fdC 0 l (nk s)).1 (fdC 0 l (nk s)).2 w hr hc hk).mono fun e w' h => ⟨h.1, below_drawn h.2⟩
theorem field_l0 (l : List S41) (s : ByteArray) (h15 : l.length ≤ 15) : ∀ (d i : Nat), i + d = l.length → Eo (fun k => windrowref10_Field.l0 k s l (i : Nat)) (fdF i (l.drop i) (nk s))
  | 0, i, h => by
    rw [List.drop_eq_nil_of_le (by omega)]
    refine (Eo.of (g := fun _ => some (0, 22)) fun _ => rfl).round fun k => ?_
    rw [windrowref10_Field.l0, if_neg (by omega)]
  | d + 1, i, h => by
    have ih := field_l0 l s h15 d (i + 1) (by omega)
    rw [drop_cons l i (by omega)]
    show Eo _ (if nk (rd_T41 l (i : Nat)).f0 = nk s then ((i : Int), 0) else fdF (i + 1) (l.drop (i + 1)) (nk s))
    by_cases he : nk (rd_T41 l (i : Nat)).f0 = nk s
    · rw [if_pos he]
      refine (Eo.of (g := fun _ => some ((i : Int), 0)) fun _ => rfl).round fun k => ?_
      rw [windrowref10_Field.l0, if_pos (by omega), if_pos (by omega), toList_eq, toList_eq, if_pos he]
    · rw [if_neg he]
      refine ih.round fun k => ?_
      rw [windrowref10_Field.l0, if_pos (by omega), if_pos (by omega), toList_eq, toList_eq, if_neg he, w64 (by omega) (by omega)]
      rfl
theorem field_eo (l : List S34) (c : Int) (s : ByteArray) (h15 : ∀ x ∈ l, x.f1.length ≤ 15) : Eo (fun k => windrowref10_Field.f k l c s) (fieldA l c s) := by
  have h1 : Eo (fun k => windrowref10_Field.j0 k l c s (decide (c < 0 ∨ c ≥ (l.length : Int)))) (fieldA l c s) := by
    unfold fieldA
    by_cases h : 0 ≤ c ∧ c < l.length
    · rw [if_pos h, decide_eq_false (by omega)]
      obtain ⟨n, rfl⟩ : ∃ n : Nat, c = n := ⟨c.toNat, by omega⟩
      have := field_l0 (rd_T34 l (n : Nat)).f1 s (h15 _ (rd34_mem l n (by omega))) (rd_T34 l (n : Nat)).f1.length 0 (by omega)
      rw [List.drop_zero] at this
      refine this.round fun k => ?_
      rw [windrowref10_Field.j0, if_neg (by decide), if_pos (by omega), if_pos (by omega)]
      rfl
    · rw [if_neg h, decide_eq_true (by omega)]
      refine (Eo.of (g := fun _ => some (0, 21)) fun _ => rfl).round fun k => ?_
      rw [windrowref10_Field.j0, if_pos rfl]
  refine h1.congr fun k => ?_
  unfold windrowref10_Field.f
  by_cases h : c < 0
  · rw [if_pos h, decide_eq_true (.inl h)]
  · rw [if_neg h]
    congr 1
    simp [h]
theorem rfield_call (A : Option Addr) (cp : Nat) (l : List S34) (c : Int) (s : ByteArray) (w : World) (hr : Kd.C k34 w A l.length l) (hc : l.length ≤ cp) (h15 : ∀ x ∈ l, x.f1.length ≤ 15) : Calls Try.prog 22 #[.slice A l.length cp, .int .i64 c, .string s] w fun e w' => e = .returned (.tuple #[.int .i64 (fieldA l c s).1, .int .i64 (fieldA l c s).2]) ∧ Below w.heap.size w w' := by
  obtain ⟨k, hk⟩ := (field_eo l c s h15).get
  exact (windrowref10_Field.calls k A cp l c s (fieldA l c s).1 (fieldA l c s).2 w hr hc hk).mono fun e w' h => ⟨h.1, below_drawn h.2⟩
theorem type_eo (l : List S34) (c f : Int) : Eo (fun k => windrowref10_Type.f k l c f) (typeA l c f) := by
  have h1 : Eo (fun k => windrowref10_Type.j0 k l c f (decide (c < 0 ∨ c ≥ (l.length : Int)))) (typeA l c f) := by
    unfold typeA
    by_cases h : 0 ≤ c ∧ c < l.length
    · rw [if_pos h, decide_eq_false (by omega)]
      by_cases h2 : 0 ≤ f ∧ f < (rd_T34 l c).f1.length
      · rw [if_pos h2]
        refine (Eo.of (g := fun _ => some ((rd_T41 (rd_T34 l c).f1 f).f1, 0)) fun _ => rfl).round fun k => ?_
        rw [windrowref10_Type.j0, if_neg (by decide), if_neg (by omega), if_pos (by omega), if_pos (by omega), if_neg (by omega), if_pos (by omega), if_pos (by omega)]
      · rw [if_neg h2]
        refine (Eo.of (g := fun _ => some (0, 22)) fun _ => rfl).round fun k => ?_
        rw [windrowref10_Type.j0, if_neg (by decide)]
        by_cases h3 : f < 0
        · rw [if_pos h3]
        · rw [if_neg h3, if_pos (by omega), if_pos (by omega), if_pos (by omega)]
    · rw [if_neg h, decide_eq_true (by omega)]
      refine (Eo.of (g := fun _ => some (0, 21)) fun _ => rfl).round fun k => ?_
      rw [windrowref10_Type.j0, if_pos rfl]
  refine h1.congr fun k => ?_
  unfold windrowref10_Type.f
  by_cases h : c < 0
  · rw [if_pos h, decide_eq_true (.inl h)]
  · rw [if_neg h]
    congr 1
    simp [h]
theorem rtype_call (A : Option Addr) (cp : Nat) (l : List S34) (c f : Int) (w : World) (hr : Kd.C k34 w A l.length l) (hc : l.length ≤ cp) : Calls Try.prog 24 #[.slice A l.length cp, .int .i64 c, .int .i64 f] w fun e w' => e = .returned (.tuple #[.int .i64 (typeA l c f).1, .int .i64 (typeA l c f).2]) ∧ Below w.heap.size w w' := by
  obtain ⟨k, hk⟩ := (type_eo l c f).get
  exact (windrowref10_Type.calls k A cp l c f (typeA l c f).1 (typeA l c f).2 w hr hc hk).mono fun e w' h => ⟨h.1, below_drawn h.2⟩

theorem str_eq (a b : ByteArray) : (a.toList == b.toList) = decide (nk a = nk b) := by
  rw [toList_eq, toList_eq]
  by_cases h : nk a = nk b
  · rw [decide_eq_true h]; exact beq_iff_eq.2 h
  · rw [decide_eq_false h]; exact beq_eq_false_iff_ne.2 h
set_option maxHeartbeats 4000000 in
set_option maxRecDepth 100000 in
theorem find_call {w : World} {t : Nat} {L : List S34} {M : List Int} {A Am : Option Addr} {ca cm : Nat} (h : IsT w t L M A Am ca cm) (s : ByteArray) :
    Calls Try.prog 19 #[.pointer (some ⟨t, 0, none⟩), .string s] w fun e w' => e = .returned (.tuple #[.int .i64 (fdC 0 L (nk s)).1, .int .i64 (fdC 0 L (nk s)).2]) ∧ Below w.heap.size w w' := by
  have h16 := h.l16
  have HT := Lib.hid h
  have HB := Lib.hid (Below.refl w.heap.size w)
  obtain ⟨x0, -⟩ := Hp.blk_cell HT.out.blk 0 rfl
  have HA := Lib.hid h.ll
  clear h
  obtain ⟨⟨rr1, rr2⟩, hrr⟩ : ∃ rr, rr = fdC 0 L (nk s) := ⟨_, rfl⟩
  have HF : Hid ((rr1, rr2) = fdC 0 (L.drop 0) (nk s)) := Lib.hid (by rw [hrr]; rfl)
  rw [← hrr]
  clear hrr
  go_enter Try.func19, Try.ntmps19
  go_wp2_with (fail)
  go_loopw [15] (fun v15 wr => ∃ k : Nat, k ≤ L.length ∧ v15 = .int .i64 k ∧ Hid (IsT wr t L M A Am ca cm) ∧ Hid (Below w.heap.size w wr) ∧ Hid ((rr1, rr2) = fdC k (L.drop k) (nk s))) (fun v15 _ => L.length - (intOf v15).toNat)
  case atStart => exact ⟨0, Nat.zero_le _, rfl, HT, HB, HF⟩
  case round =>
    clear HT HB HF x0 HA
    obtain ⟨k, hk, rfl, HT, HB, HF⟩ := hrel
    by_cases hkl : k < L.length
    · obtain ⟨ad, A1, c1, hA, r0, r1, -, -⟩ := at34 HT.out.ll k hkl
      subst hA
      have HF2 : Hid ((rr1, rr2) = if nk (rd_T34 L (k : Nat)).f0 = nk s then ((k : Int), 0) else fdC (k + 1) (L.drop (k + 1)) (nk s)) := Lib.hid (by rw [HF.out, drop_cons34 L k hkl]; rfl)
      obtain ⟨x, hx⟩ : ∃ x, x = rd_T34 L (k : Int) := ⟨_, rfl⟩
      rw [← hx] at r0 r1 HF2
      obtain ⟨f0, f1⟩ := x
      simp only at r0 r1 HF2
      clear hx HF
      go_upto_if 23 with (fail)
      have hbn : Below wr.heap.size wr (wr.alloc (.cells #[.string f0, .slice A1 f1.length c1] 34)) := (Below.refl _ wr).alloc (Nat.le_refl _) _
      replace HT := Lib.hid (HT.out.below hbn)
      replace HB := Lib.hid (HB.out.trans (hbn.mono HB.out.size))
      clear hbn
      rw [str_eq]
      by_cases he : nk f0 = nk s
      · rw [decide_eq_true he]
        have h1 : (rr1, rr2) = ((k : Int), 0) := HF2.out.trans (if_pos he)
        injection h1 with h1 h2
        subst h1 h2
        go_wp2_with (fail)
        go_ret2
        exact ⟨rfl, HB.out⟩
      · rw [decide_eq_false he]
        have h1 : (rr1, rr2) = fdC (k + 1) (L.drop (k + 1)) (nk s) := HF2.out.trans (if_neg he)
        have HF3 := Lib.hid h1
        clear h1 HF2
        go_wp2_with (fail)
        go_roundw
        case rel => exact ⟨k + 1, by omega, by go_num, HT, HB, HF3⟩
        case measure => simp [intOf]; omega
    · obtain rfl : k = L.length := by omega
      have h1 : (rr1, rr2) = (0, 21) := by rw [HF.out, List.drop_length]; rfl
      injection h1 with h1 h2
      subst h1 h2
      go_wp2_with (fail)
      go_ret2
      exact ⟨rfl, HB.out⟩
theorem known_eq {w : World} {t : Nat} {L : List S34} {M : List Int} {A Am : Option Addr} {ca cm : Nat} (h : IsT w t L M A Am ca cm) (c : Int) (b : Bool) (hb : decide (0 ≤ c ∧ c < (L.length : Int)) = b) :
    Calls Try.prog 31 #[.pointer (some ⟨t, 0, none⟩), .int .i64 c] w fun e w' => e = .returned (.bool b) ∧ w' = w := by
  subst hb
  exact known_call h c
set_option maxHeartbeats 4000000 in
set_option maxRecDepth 100000 in
theorem field_call {w : World} {t : Nat} {L : List S34} {M : List Int} {A Am : Option Addr} {ca cm : Nat} (h : IsT w t L M A Am ca cm) (c : Int) (s : ByteArray) (h15 : ∀ x ∈ L, x.f1.length ≤ 15) :
    Calls Try.prog 21 #[.pointer (some ⟨t, 0, none⟩), .int .i64 c, .string s] w fun e w' => e = .returned (.tuple #[.int .i64 (fieldA L c s).1, .int .i64 (fieldA L c s).2]) ∧ Below w.heap.size w w' := by
  by_cases hc : 0 ≤ c ∧ c < (L.length : Int)
  · obtain ⟨n, rfl⟩ : ∃ n : Nat, c = n := ⟨c.toNat, by omega⟩
    have e : fieldA L n s = fdF 0 (rd_T34 L n).f1 (nk s) := by unfold fieldA; rw [if_pos hc]
    rw [e]
    clear e
    have HK := Lib.hid (known_eq h (n : Int) true (decide_eq_true hc))
    have hn : n < L.length := by omega
    have h15n := h15 _ (rd34_mem L n hn)
    obtain ⟨ad, A1, c1, hA, r0, r1, hle1, hC1⟩ := at34 h.ll n hn
    subst hA
    obtain ⟨x, hx⟩ : ∃ x, x = rd_T34 L (n : Int) := ⟨_, rfl⟩
    rw [← hx] at r0 r1 hC1 h15n hle1 ⊢
    obtain ⟨f0, f1⟩ := x
    simp only at r0 r1 hC1 h15n hle1 ⊢
    have HC1 := Lib.hid hC1
    have HT := Lib.hid h
    have HB := Lib.hid (Below.refl w.heap.size w)
    obtain ⟨x0, -⟩ := Hp.blk_cell HT.out.blk 0 rfl
    clear hx h h15 hle1 hC1 hc
    have hl16 := HT.out.l16
    obtain ⟨⟨rr1, rr2⟩, hrr⟩ : ∃ rr, rr = fdF 0 f1 (nk s) := ⟨_, rfl⟩
    have HF : Hid ((rr1, rr2) = fdF 0 (f1.drop 0) (nk s)) := Lib.hid (by rw [hrr]; rfl)
    rw [← hrr]
    clear hrr
    go_enter Try.func21, Try.ntmps21
    go_wp2_with (first
      | (go_at_call 31; go_loud ((with_reducible refine HK.out.mono ?_); rintro e w9 ⟨rfl, hw⟩; obtain rfl := hw.symm)))
    go_loopw [23] (fun v23 wr => ∃ k : Nat, k ≤ f1.length ∧ v23 = .int .i64 k ∧ Hid (Below w.heap.size w wr) ∧ Hid ((rr1, rr2) = fdF k (f1.drop k) (nk s))) (fun v23 _ => f1.length - (intOf v23).toNat)
    case atStart => exact ⟨0, Nat.zero_le _, rfl, HB, HF⟩
    case round =>
      clear HT HB HF x0 HK r0 r1
      obtain ⟨k, hk, rfl, HB, HF⟩ := hrel
      by_cases hkl : k < f1.length
      · obtain ⟨ae, hA, r0, r1⟩ := at41 (C_below HC1.out HB.out) k hkl
        subst hA
        have HF2 : Hid ((rr1, rr2) = if nk (rd_T41 f1 (k : Nat)).f0 = nk s then ((k : Int), 0) else fdF (k + 1) (f1.drop (k + 1)) (nk s)) := Lib.hid (by rw [HF.out, drop_cons f1 k hkl]; rfl)
        obtain ⟨x, hx⟩ : ∃ x, x = rd_T41 f1 (k : Int) := ⟨_, rfl⟩
        rw [← hx] at r0 r1 HF2
        obtain ⟨g0, g1⟩ := x
        simp only at r0 r1 HF2
        clear hx HF
        go_upto_if 31 with (fail)
        have hbn : Below wr.heap.size wr (wr.alloc (.cells #[.string g0, .int .i64 g1] 41)) := (Below.refl _ wr).alloc (Nat.le_refl _) _
        replace HB := Lib.hid (HB.out.trans (hbn.mono HB.out.size))
        clear hbn
        rw [str_eq]
        by_cases he : nk g0 = nk s
        · rw [decide_eq_true he]
          have h1 : (rr1, rr2) = ((k : Int), 0) := HF2.out.trans (if_pos he)
          injection h1 with h1 h2
          subst h1 h2
          go_wp2_with (fail)
          go_ret2
          exact ⟨rfl, HB.out⟩
        · rw [decide_eq_false he]
          have h1 : (rr1, rr2) = fdF (k + 1) (f1.drop (k + 1)) (nk s) := HF2.out.trans (if_neg he)
          have HF3 := Lib.hid h1
          clear h1 HF2
          go_wp2_with (fail)
          go_roundw
          case rel => exact ⟨k + 1, by omega, by go_num, HB, HF3⟩
          case measure => simp [intOf]; omega
      · obtain rfl : k = f1.length := by omega
        have h1 : (rr1, rr2) = (0, 22) := by rw [HF.out, List.drop_length]; rfl
        injection h1 with h1 h2
        subst h1 h2
        go_wp2_with (fail)
        go_ret2
        exact ⟨rfl, HB.out⟩
  · have e : fieldA L c s = (0, 21) := by unfold fieldA; rw [if_neg hc]
    rw [e]
    have HK := Lib.hid (known_eq h c false (decide_eq_false hc))
    clear h e hc
    go_enter Try.func21, Try.ntmps21
    go_wp2_with (first
      | (go_at_call 31; go_loud ((with_reducible refine HK.out.mono ?_); rintro e w9 ⟨rfl, hw⟩; obtain rfl := hw.symm)))
    go_ret2
    exact ⟨rfl, Below.refl _ _⟩
set_option maxHeartbeats 4000000 in
set_option maxRecDepth 100000 in
theorem type_call {w : World} {t : Nat} {L : List S34} {M : List Int} {A Am : Option Addr} {ca cm : Nat} (h : IsT w t L M A Am ca cm) (c f : Int) :
    Calls Try.prog 23 #[.pointer (some ⟨t, 0, none⟩), .int .i64 c, .int .i64 f] w fun e w' => e = .returned (.tuple #[.int .i64 (typeA L c f).1, .int .i64 (typeA L c f).2]) ∧ Below w.heap.size w w' := by
  by_cases hc : 0 ≤ c ∧ c < (L.length : Int)
  · obtain ⟨n, rfl⟩ : ∃ n : Nat, c = n := ⟨c.toNat, by omega⟩
    have e : typeA L n f = (if 0 ≤ f ∧ f < (rd_T34 L n).f1.length then ((rd_T41 (rd_T34 L n).f1 f).f1, 0) else (0, 22)) := by unfold typeA; rw [if_pos hc]
    rw [e]
    clear e
    have HK := Lib.hid (known_eq h (n : Int) true (decide_eq_true hc))
    have hn : n < L.length := by omega
    obtain ⟨ad, A1, c1, hA, r0, r1, hle1, hC1⟩ := at34 h.ll n hn
    subst hA
    obtain ⟨x, hx⟩ : ∃ x, x = rd_T34 L (n : Int) := ⟨_, rfl⟩
    rw [← hx] at r0 r1 hC1 hle1 ⊢
    obtain ⟨f0, f1⟩ := x
    simp only at r0 r1 hC1 hle1 ⊢
    obtain ⟨x0, -⟩ := Hp.blk_cell h.blk 0 rfl
    have hl16 := h.l16
    clear hx h hle1 hc
    by_cases hf0 : f < 0
    · rw [if_neg (by omega)]
      have b0 : decide (f < 0) = true := decide_eq_true hf0
      clear hf0 hC1
      go_enter Try.func23, Try.ntmps23
      go_wp2_with (first
        | (go_at_call 31; go_loud ((with_reducible refine HK.out.mono ?_); rintro e w9 ⟨rfl, hw⟩; obtain rfl := hw.symm)))
      go_ret2
      exact ⟨rfl, Below.refl _ _⟩
    · obtain ⟨q, rfl⟩ : ∃ q : Nat, f = q := ⟨f.toNat, by omega⟩
      by_cases hf1 : q < f1.length
      · rw [if_pos (by omega)]
        obtain ⟨ae, hA, s0, s1⟩ := at41 hC1 q hf1
        subst hA
        obtain ⟨y, hy⟩ : ∃ y, y = rd_T41 f1 (q : Int) := ⟨_, rfl⟩
        rw [← hy] at s0 s1 ⊢
        obtain ⟨g0, g1⟩ := y
        simp only at s0 s1 ⊢
        clear hy hC1 hf0
        go_enter Try.func23, Try.ntmps23
        go_wp2_with (first
          | (go_at_call 31; go_loud ((with_reducible refine HK.out.mono ?_); rintro e w9 ⟨rfl, hw⟩; obtain rfl := hw.symm)))
        go_ret2
        exact ⟨rfl, Below.refl _ _⟩
      · rw [if_neg (by omega)]
        clear hC1 hf0
        go_enter Try.func23, Try.ntmps23
        go_wp2_with (first
          | (go_at_call 31; go_loud ((with_reducible refine HK.out.mono ?_); rintro e w9 ⟨rfl, hw⟩; obtain rfl := hw.symm)))
        go_ret2
        exact ⟨rfl, Below.refl _ _⟩
  · have e : typeA L c f = (0, 21) := by unfold typeA; rw [if_neg hc]
    rw [e]
    have HK := Lib.hid (known_eq h c false (decide_eq_false hc))
    clear h e hc
    go_enter Try.func23, Try.ntmps23
    go_wp2_with (first
      | (go_at_call 31; go_loud ((with_reducible refine HK.out.mono ?_); rintro e w9 ⟨rfl, hw⟩; obtain rfl := hw.symm)))
    go_ret2
    exact ⟨rfl, Below.refl _ _⟩
end Go.Proofs.Yteankgbcmfkfnaa.Cl

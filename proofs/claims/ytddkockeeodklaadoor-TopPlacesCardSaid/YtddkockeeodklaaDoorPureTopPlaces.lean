/- No cell is used twice: the objects of all pages, all tables and rings are different cells. For whatever numbers and classes. -/
import Derived.Test.YtddkockeeodklaaDoorTpAl
namespace Go.Proofs.YtddkockeeodklaaDoor.Pure
open Go Go.RowKit Go.Proofs.YtddkockeeodklaaDoor.PAll Go.Proofs.YtddkockeeodklaaDoorW.PrintWords Go.Proofs.YtddkockeeodklaaDoorW.PrintLast Go.Proofs.YtddkockeeodklaaDoorW.PrintMore
open Go.Proofs.YtddkockeeodklaaDoor.Eo Go.Proofs.YtddkockeeodklaaDoor.Lay
set_option linter.unusedVariables false
set_option linter.unusedSimpArgs false

theorem words_yes {c : Int} (hc : 0 ≤ c ∧ c < 8) : sizes_Words.f c = some (sz c, 0) := by unfold sizes_Words.f; rw [if_pos hc]
theorem cells_yes {c : Int} (hc : 0 ≤ c ∧ c < 8) : sizes_Cells.f c = some (64 / sz c, 0) := by unfold sizes_Cells.f; rw [if_pos hc]

/-- What is used so far: the heap up to h, the tables up to a, b and c. -/
structure Inv (P T R : Nat) (U : List Int) (h a b c : Nat) : Prop where
  len : U.length = cl P T R
  at_ : ∀ q, U.getD q 0 ≠ 0 → (bs P T R ≤ q ∧ q < h) ∨ (tb T R ≤ q ∧ q < a) ∨ (tb T R + P ≤ q ∧ q < b) ∨ (tb T R + 2 * P ≤ q ∧ q < c)
theorem set_getD {U : List Int} {q p : Nat} (h : (U.set p 1).getD q 0 ≠ 0) : q = p ∨ U.getD q 0 ≠ 0 := by
  by_cases e : q = p
  · exact .inl e
  · right
    rw [List.getD_eq_getElem?_getD, List.getElem?_set_ne (by omega)] at h
    rwa [List.getD_eq_getElem?_getD]
theorem Inv.zero {P T R : Nat} {U : List Int} {h a b c : Nat} (H : Inv P T R U h a b c) {q : Nat} (hq : ¬ ((bs P T R ≤ q ∧ q < h) ∨ (tb T R ≤ q ∧ q < a) ∨ (tb T R + P ≤ q ∧ q < b) ∨ (tb T R + 2 * P ≤ q ∧ q < c))) : U.getD q 0 = 0 := by
  by_cases e : U.getD q 0 = 0
  · exact e
  · exact absurd (H.at_ q e) hq
theorem Inv.put {P T R : Nat} {U : List Int} {h a b c p h' a' b' c' : Nat} (H : Inv P T R U h a b c)
    (hp : ∀ q, q = p ∨ ((bs P T R ≤ q ∧ q < h) ∨ (tb T R ≤ q ∧ q < a) ∨ (tb T R + P ≤ q ∧ q < b) ∨ (tb T R + 2 * P ≤ q ∧ q < c)) → ((bs P T R ≤ q ∧ q < h') ∨ (tb T R ≤ q ∧ q < a') ∨ (tb T R + P ≤ q ∧ q < b') ∨ (tb T R + 2 * P ≤ q ∧ q < c'))) : Inv P T R (U.set p 1) h' a' b' c' :=
  ⟨by rw [List.length_set]; exact H.len, fun q hq => hp q ((set_getD hq).imp_right (H.at_ q))⟩
structure Inw (P T R : Nat) (U : List Int) (m : Nat) : Prop where
  len : U.length = cl P T R
  at_ : ∀ q, U.getD q 0 ≠ 0 → (16 ≤ q ∧ q < m) ∨ tb T R ≤ q
theorem Inw.zero {P T R : Nat} {U : List Int} {m : Nat} (H : Inw P T R U m) {q : Nat} (hq : ¬ ((16 ≤ q ∧ q < m) ∨ tb T R ≤ q)) : U.getD q 0 = 0 := by
  by_cases e : U.getD q 0 = 0
  · exact e
  · exact absurd (H.at_ q e) hq
theorem Inw.put {P T R : Nat} {U : List Int} {m : Nat} (H : Inw P T R U m) (h16 : 16 ≤ m) : Inw P T R (U.set m 1) (m + 1) :=
  ⟨by rw [List.length_set]; exact H.len, fun q hq => by
    rcases set_getD hq with rfl | h
    · exact .inl ⟨h16, by omega⟩
    · exact (H.at_ q h).imp_left fun h => ⟨h.1, by omega⟩⟩

/-! ### the threads' cells -/
def thr (R t n : Nat) : List Int := (List.range n).map fun j => ((16 + t * (5 + R) + j : Nat) : Int)

theorem thr_len (R t n : Nat) : (thr R t n).length = n := by simp [thr]
theorem thr_get {R t n j : Nat} (hj : j < n) : (thr R t n).getD j 0 = ((16 + t * (5 + R) + j : Nat) : Int) := by
  rw [List.getD_eq_getElem?_getD, List.getElem?_eq_getElem (by rw [thr_len]; exact hj)]; simp [thr]
theorem thr_succ (R t n : Nat) : thr R t (n + 1) = thr R t n ++ [((16 + t * (5 + R) + n : Nat) : Int)] := by simp [thr, List.range_succ]
theorem t_lt {T R t j : Nat} (ht : t < T) (hj : j < 5 + R) : 16 + t * (5 + R) + j < tb T R := by
  unfold tb
  have := Nat.mul_le_mul_right (5 + R) (show t + 1 ≤ T from ht)
  rw [Nat.add_mul] at this
  omega

section
variable {P T R : Nat} (h : right P T R) (X : List Int)
include h

theorem l6_ev {t : Nat} (ht : t < T) (hn : ∀ U, Inw P T R U (16 + (t + 1) * (5 + R)) → Eo (fun k => windrowtop_TopPlaces.l4 k (cl P T R) U ((t + 1 : Nat) : Int) P T R) true) :
    ∀ d j : Nat, j + d = 5 + R → ∀ U, Inw P T R U (16 + t * (5 + R) + j) → Eo (fun k => windrowtop_TopPlaces.l6 k (cl P T R) U t (thr R t (5 + R)) j P T R) true := by
  have hR := h.2.2.2.2.2
  have hT := h.2.2.2.1
  have hcl := cl_le h
  have hbs := bs_ge P T R
  have hcb : cl P T R = bs P T R + 64 * P := rfl
  intro d
  induction d with
  | zero =>
    intro j hj U hU
    have e : 16 + t * (5 + R) + j = 16 + (t + 1) * (5 + R) := by rw [Nat.add_mul]; omega
    refine (hn U (e ▸ hU)).round fun k => ?_
    simp only [windrowtop_TopPlaces.l6, thr_len]
    rw [if_neg (by omega), w64 (x := (t : Int) + 1) (by omega) (by omega)]; rfl
  | succ d ih =>
    intro j hj U hU
    have hlt := t_lt (R := R) ht (j := j) (by omega)
    have hz := hU.zero (q := 16 + t * (5 + R) + j) (by omega)
    have hlen := hU.len
    refine (ih (j + 1) (by omega) _ (hU.put (by omega))).round fun k => ?_
    simp only [windrowtop_TopPlaces.l6, thr_len]
    rw [rdn (thr R t (5 + R)) j, thr_get (R := R) (t := t) (n := 5 + R) (j := j) (by omega), rdn U, hz, Int.toNat_natCast, w64 (x := (j : Int) + 1) (by omega) (by omega)]
    rw [if_pos (by omega), if_pos (by omega), if_neg (by omega), if_neg (by omega), if_pos (by omega), if_pos (by omega), if_pos rfl]
    rfl

theorem l5_ev {t : Nat} (ht : t < T) (hn : ∀ U, Inw P T R U (16 + (t + 1) * (5 + R)) → Eo (fun k => windrowtop_TopPlaces.l4 k (cl P T R) U ((t + 1 : Nat) : Int) P T R) true) (U : List Int) (hU : Inw P T R U (16 + t * (5 + R))) :
    ∀ d i : Nat, i + d = R → Eo (fun k => windrowtop_TopPlaces.l5 k (cl P T R) U t (thr R t (5 + i)) i P T R) true := by
  have hR := h.2.2.2.2.2
  have hT := h.2.2.2.1
  intro d
  induction d with
  | zero =>
    intro i hi
    obtain rfl : i = R := by omega
    refine (l6_ev h ht hn _ 0 (Nat.zero_add _) U hU).round fun k => ?_
    simp only [windrowtop_TopPlaces.l5]
    rw [if_neg (by omega)]; rfl
  | succ d ih =>
    intro i hi
    have hm := mul_le' (show t ≤ T by omega) hT hR
    refine (ih (i + 1) (by omega)).round fun k => ?_
    simp only [windrowtop_TopPlaces.l5]
    rw [if_pos (by omega), u64i (by omega) (by omega), p_slot h (by omega) (by omega), if_pos (by omega), Option.bind_some, thr_len, if_pos (by omega), w64 (x := (i : Int) + 1) (by omega) (by omega), Int.emod_eq_of_lt (by omega) (by omega)]
    have e : (16 : Int) + t * (5 + R) + 5 + i = ((16 + t * (5 + R) + (5 + i) : Nat) : Int) := by push_cast; omega
    rw [e, ← thr_succ]; rfl

theorem l4_ev : ∀ d t : Nat, t + d = T → ∀ U, Inw P T R U (16 + t * (5 + R)) → Eo (fun k => windrowtop_TopPlaces.l4 k (cl P T R) U t P T R) true := by
  intro d
  induction d with
  | zero =>
    intro t ht U hU
    refine (Eo.of (g := fun _ => some true) fun _ => rfl).round fun k => ?_
    simp only [windrowtop_TopPlaces.l4]
    rw [if_neg (by omega)]
  | succ d ih =>
    intro t ht U hU
    refine (l5_ev h (show t < T by omega) (fun U' => ih (t + 1) (by omega) U') U hU R 0 (by omega)).round fun k => ?_
    simp only [windrowtop_TopPlaces.l4]
    have hc : (0 : Int) ≤ (t : Int) ∧ (t : Int) < T := by omega
    rw [if_pos (by omega), p_status h, p_ack h, p_result h, p_head h, p_tail h]
    simp only [if_pos hc, Option.bind_some]
    have e : thr R t (5 + 0) = [(16 : Int) + t * (5 + R) + 0, (16 : Int) + t * (5 + R) + 1, (16 : Int) + t * (5 + R) + 2, (16 : Int) + t * (5 + R) + 3, (16 : Int) + t * (5 + R) + 4] := by
      simp [thr, List.range_succ]
    rw [e]; rfl

/-! ### the pages -/
theorem l3_ev {c : Int} (hc : 0 ≤ c ∧ c < 8) {pg hp : Nat} (hpg : pg < P) (hhp : bs P T R ≤ hp ∧ hp ≤ bs P T R + 64 * (pg + 1))
    (hn : ∀ U, Inv P T R U (bs P T R + 64 * (pg + 1)) (tb T R + (pg + 1)) (tb T R + P + (pg + 1)) (tb T R + 2 * P + (pg + 1)) → Eo (fun k => windrowtop_TopPlaces.l0 k X (cl P T R) U ((pg + 1 : Nat) : Int) P T R) true)
    (U : List Int) (hU : Inv P T R U hp (tb T R + pg) (tb T R + P + pg) (tb T R + 2 * P + pg)) :
    Eo (fun k => windrowtop_TopPlaces.l3 k X (cl P T R) U pg c (al c (64 / sz c).toNat) [(tb T R : Int) + pg, (tb T R : Int) + P + pg, (tb T R : Int) + 2 * P + pg] 0 P T R) true := by
  have hcl := cl_le h
  have hP := h.2.1
  have hbs := bs_ge P T R
  have hcb : cl P T R = bs P T R + 64 * P := rfl
  have h16 : 16 ≤ tb T R := by unfold tb; omega
  have hlen := hU.len
  have z0 := hU.zero (q := tb T R + pg) (by omega)
  have H1 := hU.put (p := tb T R + pg) (h' := hp) (a' := tb T R + pg + 1) (b' := tb T R + P + pg) (c' := tb T R + 2 * P + pg) (fun q hq => by omega)
  have z1 := H1.zero (q := tb T R + P + pg) (by omega)
  have H2 := H1.put (p := tb T R + P + pg) (h' := hp) (a' := tb T R + pg + 1) (b' := tb T R + P + pg + 1) (c' := tb T R + 2 * P + pg) (fun q hq => by omega)
  have z2 := H2.zero (q := tb T R + 2 * P + pg) (by omega)
  have H3 := H2.put (p := tb T R + 2 * P + pg) (h' := bs P T R + 64 * (pg + 1)) (a' := tb T R + (pg + 1)) (b' := tb T R + P + (pg + 1)) (c' := tb T R + 2 * P + (pg + 1)) (fun q hq => by omega)
  have l1 := H1.len
  have l2 := H2.len
  have e0 : (tb T R : Int) + pg = ((tb T R + pg : Nat) : Int) := by push_cast; rfl
  have e1 : (tb T R : Int) + P + pg = ((tb T R + P + pg : Nat) : Int) := by push_cast; rfl
  have e2 : (tb T R : Int) + 2 * P + pg = ((tb T R + 2 * P + pg : Nat) : Int) := by push_cast; rfl
  rw [e0, e1, e2]
  have r0 : rd [((tb T R + pg : Nat) : Int), ((tb T R + P + pg : Nat) : Int), ((tb T R + 2 * P + pg : Nat) : Int)] 0 = ((tb T R + pg : Nat) : Int) := rfl
  have r1 : rd [((tb T R + pg : Nat) : Int), ((tb T R + P + pg : Nat) : Int), ((tb T R + 2 * P + pg : Nat) : Int)] 1 = ((tb T R + P + pg : Nat) : Int) := rfl
  have r2 : rd [((tb T R + pg : Nat) : Int), ((tb T R + P + pg : Nat) : Int), ((tb T R + 2 * P + pg : Nat) : Int)] 2 = ((tb T R + 2 * P + pg : Nat) : Int) := rfl
  have noref : ∀ q : Nat, q < bs P T R → layout_Plan_Ref.f P T R (IntKind.u64.wrap (q : Int)) = some false := fun q hq => by
    rw [u64i (by omega) (by omega), p_ref h (by omega), decide_eq_false (by omega)]
  have s3 : Eo (fun k => windrowtop_TopPlaces.l3 k X (cl P T R) (((U.set (tb T R + pg) 1).set (tb T R + P + pg) 1).set (tb T R + 2 * P + pg) 1) pg c (al c (64 / sz c).toNat) [((tb T R + pg : Nat) : Int), ((tb T R + P + pg : Nat) : Int), ((tb T R + 2 * P + pg : Nat) : Int)] 3 P T R) true := by
    refine (hn _ H3).round fun k => ?_
    simp only [windrowtop_TopPlaces.l3]
    rw [if_neg (by omega), room_al hc, Option.bind_some, if_pos rfl, w64 (x := (pg : Int) + 1) (by omega) (by omega)]; rfl
  have s2 : Eo (fun k => windrowtop_TopPlaces.l3 k X (cl P T R) ((U.set (tb T R + pg) 1).set (tb T R + P + pg) 1) pg c (al c (64 / sz c).toNat) [((tb T R + pg : Nat) : Int), ((tb T R + P + pg : Nat) : Int), ((tb T R + 2 * P + pg : Nat) : Int)] 2 P T R) true := by
    refine s3.round fun k => ?_
    simp only [windrowtop_TopPlaces.l3]
    rw [r2, rdn, z2, noref _ (by omega), Int.toNat_natCast, w64 (x := (2 : Int) + 1) (by omega) (by omega)]
    rw [if_pos (by omega), if_pos (by omega), if_pos (by simp), if_neg (by omega), if_neg (by omega), if_pos (by omega), if_pos (by omega), if_pos rfl]
    rfl
  have s1 : Eo (fun k => windrowtop_TopPlaces.l3 k X (cl P T R) (U.set (tb T R + pg) 1) pg c (al c (64 / sz c).toNat) [((tb T R + pg : Nat) : Int), ((tb T R + P + pg : Nat) : Int), ((tb T R + 2 * P + pg : Nat) : Int)] 1 P T R) true := by
    refine s2.round fun k => ?_
    simp only [windrowtop_TopPlaces.l3]
    rw [r1, rdn, z1, noref _ (by omega), Int.toNat_natCast, w64 (x := (1 : Int) + 1) (by omega) (by omega)]
    rw [if_pos (by omega), if_pos (by omega), if_pos (by simp), if_neg (by omega), if_neg (by omega), if_pos (by omega), if_pos (by omega), if_pos rfl]
    rfl
  refine s1.round fun k => ?_
  simp only [windrowtop_TopPlaces.l3]
  rw [r0, rdn, z0, noref _ (by omega), Int.toNat_natCast, w64 (x := (0 : Int) + 1) (by omega) (by omega)]
  rw [if_pos (by omega), if_pos (by omega), if_pos (by simp), if_neg (by omega), if_neg (by omega), if_pos (by omega), if_pos (by omega), if_pos rfl]
  rfl

theorem l2_ev {c : Int} (hc : 0 ≤ c ∧ c < 8) {s m : Nat} (hs : sz c = s) (hm : 64 / sz c = m) (hms : m * s ≤ 64) (hs2 : 2 ≤ s ∧ s ≤ 32) (hm2 : m ≤ 32) {pg i : Nat} (hpg : pg < P) (hi : i < m)
    (hn : ∀ U, Inv P T R U (bs P T R + 64 * pg + (i + 1) * s) (tb T R + pg) (tb T R + P + pg) (tb T R + 2 * P + pg) → Eo (fun k => windrowtop_TopPlaces.l1 k X (cl P T R) U pg c s m (al c (i + 1)) ((i + 1 : Nat) : Int) P T R) true) :
    ∀ d j : Nat, j + d = s → ∀ U, Inv P T R U (bs P T R + 64 * pg + i * s + j) (tb T R + pg) (tb T R + P + pg) (tb T R + 2 * P + pg) →
      Eo (fun k => windrowtop_TopPlaces.l2 k X (cl P T R) U pg c s m (al c (i + 1)) i ((i * s : Nat) : Int) j P T R) true := by
  have hcl := cl_le h
  have hP := h.2.1
  have hbs := bs_ge P T R
  have hcb : cl P T R = bs P T R + 64 * P := rfl
  have his : i * s + s ≤ 64 := by
    have := Nat.mul_le_mul_right s (show i + 1 ≤ m from hi)
    rw [Nat.add_mul] at this
    omega
  intro d
  induction d with
  | zero =>
    intro j hj U hU
    have e : bs P T R + 64 * pg + i * s + j = bs P T R + 64 * pg + (i + 1) * s := by rw [Nat.add_mul]; omega
    refine (hn U (e ▸ hU)).round fun k => ?_
    simp only [windrowtop_TopPlaces.l2]
    rw [if_neg (by omega), w64 (x := (i : Int) + 1) (by omega) (by omega)]; rfl
  | succ d ih =>
    intro j hj U hU
    have hlen := hU.len
    have hz := hU.zero (q := bs P T R + 64 * pg + i * s + j) (by omega)
    have eA : layout_Plan_Addr.f P T R pg ((i * s + j : Nat) : Int) = some ((bs P T R + 64 * pg + i * s + j : Nat) : Int) := by
      rw [p_addr h, if_pos (by omega)]; congr 1; push_cast; omega
    have eP : layout_Plan_Place.f P T R ((bs P T R + 64 * pg + i * s + j : Nat) : Int) = some ((pg : Int), ((i * s + j : Nat) : Int)) := by
      rw [p_place h (by omega), if_pos (by omega)]
      congr 1
      rw [Prod.mk.injEq]; omega
    have eR : layout_Plan_Ref.f P T R (IntKind.u64.wrap ((bs P T R + 64 * pg + i * s + j : Nat) : Int)) = some true := by
      rw [u64i (by omega) (by omega), p_ref h (by omega), decide_eq_true (by omega)]
    have eC : sizes_Cell.f c ((i * s + j : Nat) : Int) = some ((i * s : Nat) : Int) := by
      have hq : (i * s + j) / s = i := by
        rw [Nat.add_comm, Nat.add_mul_div_right _ _ (by omega), Nat.div_eq_of_lt (by omega)]; omega
      have hmul := Nat.mul_le_mul_right s (show i + 1 ≤ m from hi)
      rw [Nat.add_mul] at hmul
      rw [cell_at hc (by omega) (by rw [hm, hs, ← Int.natCast_mul]; omega), hs, ← Int.natCast_ediv, hq]; simp
    refine (ih (j + 1) (by omega) _ (hU.put (p := bs P T R + 64 * pg + i * s + j) (fun q hq => by omega))).round fun k => ?_
    simp only [windrowtop_TopPlaces.l2]
    rw [show wrap64 (((i * s : Nat) : Int) + j) = ((i * s + j : Nat) : Int) from by rw [w64 (by omega) (by omega)]; push_cast; rfl, eA]
    simp only [Option.bind_some]
    rw [eP]
    simp only [Option.bind_some]
    rw [eC, eR, rdn, hz, Int.toNat_natCast, w64 (x := (j : Int) + 1) (by omega) (by omega)]
    simp only [Option.bind_some]
    rw [if_pos (by omega), if_neg (by omega), if_neg (by omega), if_pos (by omega), if_pos (by omega)]
    simp only [if_true]
    rfl

theorem l1_ev {c : Int} (hc : 0 ≤ c ∧ c < 8) {s m : Nat} (hs : sz c = s) (hm : 64 / sz c = m) (hms : m * s ≤ 64) (hs2 : 2 ≤ s ∧ s ≤ 32) (hm2 : m ≤ 32) {pg : Nat} (hpg : pg < P)
    (hn : ∀ U, Inv P T R U (bs P T R + 64 * (pg + 1)) (tb T R + (pg + 1)) (tb T R + P + (pg + 1)) (tb T R + 2 * P + (pg + 1)) → Eo (fun k => windrowtop_TopPlaces.l0 k X (cl P T R) U ((pg + 1 : Nat) : Int) P T R) true) :
    ∀ d i : Nat, i + d = m → ∀ U, Inv P T R U (bs P T R + 64 * pg + i * s) (tb T R + pg) (tb T R + P + pg) (tb T R + 2 * P + pg) →
      Eo (fun k => windrowtop_TopPlaces.l1 k X (cl P T R) U pg c s m (al c i) i P T R) true := by
  have hP := h.2.1
  intro d
  induction d with
  | zero =>
    intro i hi U hU
    obtain rfl : i = m := by omega
    have := l3_ev h X hc hpg (hp := bs P T R + 64 * pg + i * s) (by omega) hn U hU
    rw [hm, Int.toNat_natCast] at this
    refine this.round fun k => ?_
    simp only [windrowtop_TopPlaces.l1]
    have hcc : (0 : Int) ≤ (pg : Int) ∧ (pg : Int) < P := by omega
    rw [if_neg (by omega), p_entry h, p_alloc h, p_mark h]
    simp only [if_pos hcc, Option.bind_some]
  | succ d ih =>
    intro i hi U hU
    have him : i < m := by omega
    have his : i * s + s ≤ 64 := by
      have := Nat.mul_le_mul_right s (show i + 1 ≤ m from him)
      rw [Nat.add_mul] at this
      omega
    have eF : sizes_First.f c (al c i) 0 = some ((i * s : Nat) : Int) := by
      rw [first_al hc (by omega) (by omega), hs]; simp
    have h2 := l2_ev h X hc hs hm hms hs2 hm2 hpg him (fun U' hU' => ih (i + 1) (by omega) U' hU') s 0 (by omega) U hU
    have h5 : Eo (fun k => windrowtop_TopPlaces.j5 k X (cl P T R) U pg c s m (al c i) i ((i * s : Nat) : Int) (decide (((i * s : Nat) : Int) > 63)) P T R) true := by
      refine h2.round fun k => ?_
      simp only [windrowtop_TopPlaces.j5]
      rw [decide_eq_false (by omega), if_neg Bool.false_ne_true, if_pos (by omega), al_succ, hs, ← Int.natCast_mul]; rfl
    refine h5.round fun k => ?_
    simp only [windrowtop_TopPlaces.l1]
    rw [if_pos (by omega), eF]
    simp only [Option.bind_some]
    rw [if_neg (by omega)]

theorem l0_ev : ∀ d pg : Nat, pg + d = P → ∀ U, Inv P T R U (bs P T R + 64 * pg) (tb T R + pg) (tb T R + P + pg) (tb T R + 2 * P + pg) →
      Eo (fun k => windrowtop_TopPlaces.l0 k X (cl P T R) U pg P T R) true := by
  intro d
  induction d with
  | zero =>
    intro pg hpg U hU
    have hbs := bs_ge P T R
    refine (l4_ev h T 0 (by omega) U ⟨hU.len, fun q hq => .inr (by have := hU.at_ q hq; omega)⟩).round fun k => ?_
    simp only [windrowtop_TopPlaces.l0]
    rw [if_neg (by omega)]; rfl
  | succ d ih =>
    intro pg hpg U hU
    have key : ∀ c : Int, 0 ≤ c ∧ c < 8 → Eo (fun k => windrowtop_TopPlaces.j2 k X (cl P T R) U pg c P T R) true := by
      intro c hc
      obtain ⟨s, m, hs, hm, h1, h2, h3, h4, h5⟩ := sz_nat hc
      have e1 := l1_ev h X hc hs hm h5 ⟨h1, h2⟩ h4 (show pg < P by omega) (fun U' hU' => ih (pg + 1) (by omega) U' hU') m 0 (by omega) U (by rw [Nat.zero_mul]; exact hU)
      have e3 : Eo (fun k => windrowtop_TopPlaces.j3 k X (cl P T R) U pg c s m (decide ((s : Int) < 1)) P T R) true := by
        refine e1.round fun k => ?_
        simp only [windrowtop_TopPlaces.j3]
        rw [decide_eq_false (by omega), if_neg Bool.false_ne_true]; rfl
      refine e3.round fun k => ?_
      simp only [windrowtop_TopPlaces.j2]
      rw [words_yes hc, cells_yes hc, hm, hs]
      simp only [Option.bind_some]
      rfl
    by_cases hx : (pg : Int) < (X.length : Int)
    · have hr0 : 0 ≤ Int.tmod (IntKind.u64.wrap (rd X pg)) 8 ∧ Int.tmod (IntKind.u64.wrap (rd X pg)) 8 < 8 := by
        have hx : 0 ≤ IntKind.u64.wrap (rd X pg) := by rw [u64w]; omega
        rw [tm hx]
        exact ⟨Int.emod_nonneg _ (by omega), Int.emod_lt_of_pos _ (by omega)⟩
      refine (key (wrap64 (Int.tmod (IntKind.u64.wrap (rd X pg)) 8)) (by rw [w64 (by omega) (by omega)]; exact hr0)).round fun k => ?_
      simp only [windrowtop_TopPlaces.l0]
      rw [if_pos (by omega), if_pos hx, if_pos (by omega)]
    · refine (key 0 (by omega)).round fun k => ?_
      simp only [windrowtop_TopPlaces.l0]
      rw [if_pos (by omega), if_neg hx]
end

theorem cut (x : Int) {m : Int} (h0 : 0 < m) (h1 : m ≤ 1000) : ∃ n : Nat, (n : Int) < m ∧ wrap64 (Int.tmod (IntKind.u64.wrap x) m) = n := by
  have hx : 0 ≤ IntKind.u64.wrap x := by rw [u64w]; omega
  rw [tm hx]
  have hb := Int.emod_lt_of_pos (IntKind.u64.wrap x) h0
  have hb0 := Int.emod_nonneg (IntKind.u64.wrap x) (show m ≠ 0 by omega)
  exact ⟨(IntKind.u64.wrap x % m).toNat, by omega, by rw [w64 (by omega) (by omega)]; omega⟩

theorem TopPlaces (a b c : Int) (X : List Int) : ∃ k, windrowtop_TopPlaces.f k a b c X = some true := by
  obtain ⟨P', hP, eP⟩ := cut a (show (0 : Int) < 32 by omega) (by omega)
  obtain ⟨T', hT, eT⟩ := cut b (show (0 : Int) < 6 by omega) (by omega)
  obtain ⟨R', hR, eR⟩ := cut c (show (0 : Int) < 16 by omega) (by omega)
  have h : right (1 + P') (1 + T') (1 + R') := by unfold right; omega
  have e1 : ∀ n : Nat, n ≤ 100 → wrap64 (1 + (n : Int)) = ((1 + n : Nat) : Int) := fun n hn => by rw [w64 (by omega) (by omega)]; omega
  have hcl := cl_le h
  have hbs := bs_ge (1 + P') (1 + T') (1 + R')
  have hcb : cl (1 + P') (1 + T') (1 + R') = bs (1 + P') (1 + T') (1 + R') + 64 * (1 + P') := rfl
  have h16 : 16 ≤ tb (1 + T') (1 + R') := by unfold tb; omega
  have hInv : Inv (1 + P') (1 + T') (1 + R') (List.replicate (cl (1 + P') (1 + T') (1 + R')) 0) (bs (1 + P') (1 + T') (1 + R') + 64 * 0) (tb (1 + T') (1 + R') + 0) (tb (1 + T') (1 + R') + (1 + P') + 0) (tb (1 + T') (1 + R') + 2 * (1 + P') + 0) :=
    ⟨List.length_replicate, fun q hq => absurd (by
      rw [List.getD_eq_getElem?_getD, List.getElem?_replicate]
      split <;> rfl) hq⟩
  obtain ⟨K, hK⟩ := l0_ev h X (1 + P') 0 (by omega) _ hInv
  refine ⟨K + 1, ?_⟩
  unfold windrowtop_TopPlaces.f layout_New.f
  rw [eP, eT, eR, e1 _ (by omega), e1 _ (by omega), e1 _ (by omega), plan_right_true h]
  simp only [Option.bind_some, if_true]
  rw [p_cells h]
  simp only [Option.bind_some]
  rw [if_neg (by omega), decide_eq_false (by omega)]
  simp only [windrowtop_TopPlaces.j0]
  rw [if_neg Bool.false_ne_true, if_pos (by omega), Int.toNat_natCast, if_pos (by omega)]
  exact hK K (Nat.le_refl _)
end Go.Proofs.YtddkockeeodklaaDoor.Pure

/- ShadeOne: what its walk rests on, in plain words. -/
import Derived.Test.YtcnledehnefldaaOh
import Derived.Test.YtcnledehnefldaaPMp
import Derived.Test.YtcnledehnefldaaWd
import Derived.LoopTactic
import Derived.IntWalk
import Derived.Deep.Cut
import Derived.Deep.DeepCutAuto
namespace Go.Proofs.Ytcnledehnefldaa.Ar
open Go Go.RowKit Go.Proofs.Ytcnledehnefldaa.Hp Go.Proofs.Ytcnledehnefldaa.PH Go.Proofs.Ytcnledehnefldaa.Eo
open Go.Proofs.YtcnledehnefldaaW.PrintWords (Kd)
open Go.Proofs.YtcnledehnefldaaW.PrintLast (i64_w)
set_option linter.unusedVariables false
set_option linter.unusedSimpArgs false

theorem cut8 (x : Int) {m : Int} (h0 : 0 < m) (h1 : m ≤ 1000) : ∃ n : Nat, (n : Int) < m ∧ wrap64 (Int.tmod (IntKind.u64.wrap x) m) = n := by
  have hx : 0 ≤ IntKind.u64.wrap x := by rw [u64w]; omega
  rw [Lay.tm hx]
  have hb := Int.emod_lt_of_pos (IntKind.u64.wrap x) h0
  have hb0 := Int.emod_nonneg (IntKind.u64.wrap x) (show m ≠ 0 by omega)
  exact ⟨(IntKind.u64.wrap x % m).toNat, by omega, by rw [w64 (by omega) (by omega)]; omega⟩
theorem small_yes (P0 T0 R0 : Int) : ∃ P T R : Nat, Lay.right P T R ∧ P ≤ 3 ∧ T ≤ 4 ∧ windrowlaw08_small.f P0 T0 R0 = some ((P : Int), (T : Int), (R : Int)) := by
  obtain ⟨p, hp, ep⟩ := cut8 P0 (show (0 : Int) < 3 by omega) (by omega)
  obtain ⟨t, ht, et⟩ := cut8 T0 (show (0 : Int) < 4 by omega) (by omega)
  obtain ⟨r, hr, er⟩ := cut8 R0 (show (0 : Int) < 3 by omega) (by omega)
  refine ⟨1 + p, 1 + t, 1 + r, by unfold Lay.right; omega, by omega, by omega, ?_⟩
  unfold windrowlaw08_small.f
  rw [ep, et, er, w64 (by omega) (by omega), w64 (by omega) (by omega), w64 (by omega) (by omega)]
  congr 1
theorem or1 {x : Int} (h : 0 ≤ x ∧ x < 18446744073709551616) : Go.bits .or .u64 x 1 ≠ 0 ∧ 0 ≤ Go.bits .or .u64 x 1 ∧ Go.bits .or .u64 x 1 < 18446744073709551616 := by
  obtain ⟨n, rfl⟩ := Int.eq_ofNat_of_zero_le h.1
  have hn : n < 2 ^ 64 := by have := h.2; omega
  have e : Go.bits .or .u64 (n : Int) 1 = ((n ||| 1 : Nat) : Int) := Wd.or_nat hn (by decide)
  have hlt : n ||| 1 < 2 ^ 64 := Nat.or_lt_two_pow hn (by decide)
  have hne : n ||| 1 ≠ 0 := fun z => by
    have : (n ||| 1).testBit 0 = true := by rw [Nat.testBit_or]; simp
    rw [z] at this; simp at this
  rw [e]
  omega
/-- The object: a page of the heap and a word of it. -/
theorem refers_yes {P T R : Nat} (hr : Lay.right P T R) {x : Int} (h0 : x ≠ 0) (h : 0 ≤ x ∧ x < 18446744073709551616) : ∃ pg b : Nat, pg < P ∧ b < 64 ∧
    windrowlaw08_refers.f P T R (Lay.bs P T R : Nat) (Lay.tb T R : Nat) (Lay.cl P T R : Nat) x = some ((Lay.bs P T R + 64 * pg + b : Nat) : Int) ∧
    windrowref06_Map_Heap.f P T R (Lay.bs P T R : Nat) (Lay.tb T R : Nat) (Lay.cl P T R : Nat) (wrap64 ((Lay.bs P T R + 64 * pg + b : Nat) : Int)) = some ((pg : Int), (b : Int)) := by
  have hc := Lay.cl_le hr
  have hcb : Lay.cl P T R = Lay.bs P T R + 64 * P := rfl
  have hP := hr.1
  have key : ∀ m : Nat, m < 64 * P → ∃ pg b : Nat, pg < P ∧ b < 64 ∧ m = 64 * pg + b := fun m hm => ⟨m / 64, m % 64, by omega, Nat.mod_lt _ (by omega), by omega⟩
  have heap : ∀ pg b : Nat, pg < P → b < 64 → windrowref06_Map_Heap.f P T R (Lay.bs P T R : Nat) (Lay.tb T R : Nat) (Lay.cl P T R : Nat) (wrap64 ((Lay.bs P T R + 64 * pg + b : Nat) : Int)) = some ((pg : Int), (b : Int)) := fun pg b hp hb => by
    unfold windrowref06_Map_Heap.f
    rw [w64 (by omega) (by omega), if_neg (by omega), if_neg (by omega), if_neg (by omega), w64 (x := _ - _) (by omega) (by omega), Lay.td (by omega), Lay.tm (by omega), w64 (by omega) (by omega)]
    congr 1
    rw [Prod.mk.injEq]; omega
  by_cases hin : (Lay.bs P T R : Int) ≤ x ∧ x < Lay.cl P T R
  · obtain ⟨n, rfl⟩ := Int.eq_ofNat_of_zero_le h.1
    obtain ⟨pg, b, hp, hb, e⟩ := key (n - Lay.bs P T R) (by omega)
    refine ⟨pg, b, hp, hb, ?_, heap pg b hp hb⟩
    unfold windrowlaw08_refers.f windrowref08_Ref.f
    rw [if_neg h0, if_pos (by omega), u64i (by omega) (by omega), u64i (by omega) (by omega), if_pos (by omega), decide_eq_true (by omega)]
    simp only [Option.bind_some, if_true]
    congr 1
    omega
  · have hm : 0 ≤ x % ((64 * P : Nat) : Int) ∧ x % ((64 * P : Nat) : Int) < ((64 * P : Nat) : Int) := ⟨Int.emod_nonneg _ (by omega), Int.emod_lt_of_pos _ (by omega)⟩
    obtain ⟨pg, b, hp, hb, e⟩ := key (x % ((64 * P : Nat) : Int)).toNat (by omega)
    refine ⟨pg, b, hp, hb, ?_, heap pg b hp hb⟩
    have e2 : ((Lay.cl P T R : Nat) : Int) - ((Lay.bs P T R : Nat) : Int) = ((64 * P : Nat) : Int) := by rw [hcb]; push_cast; omega
    have hnot : windrowref08_Ref.f P T R (Lay.bs P T R : Nat) (Lay.tb T R : Nat) (Lay.cl P T R : Nat) x = some false := by
      unfold windrowref08_Ref.f
      rw [if_pos (by omega), u64i (by omega) (by omega), u64i (by omega) (by omega)]
      by_cases h1 : (Lay.bs P T R : Int) ≤ x
      · rw [if_pos (by omega), decide_eq_false (by omega)]
      · rw [if_neg (by omega)]
    unfold windrowlaw08_refers.f
    rw [if_neg h0, hnot]
    simp only [Option.bind_some, Bool.false_eq_true, if_false]
    rw [e2, w64 (x := ((64 * P : Nat) : Int)) (by omega) (by omega), u64i (x := ((64 * P : Nat) : Int)) (by omega) (by omega), if_neg (by omega), Lay.tm h.1, u64i (x := ((Lay.bs P T R : Nat) : Int)) (by omega) (by omega), u64i (by omega) (by omega)]
    congr 1
    omega
theorem one_cl {P T R : Nat} (hr : Lay.right P T R) : 1 ≤ Lay.cl P T R ∧ Lay.cl P T R ≤ 4096 := by
  have hc := Lay.cl_le hr
  have hcb : Lay.cl P T R = Lay.bs P T R + 64 * P := rfl
  have := hr.1
  omega
theorem one_start0 {P T R pg b : Nat} {ref : Int} (hr : Lay.right P T R) : OneI P T R pg b ref false ⟨List.replicate (Lay.cl P T R) 0, [], true, 0, 0⟩ [] := by
  have hz : ∀ q, (List.replicate (Lay.cl P T R) (0 : Int)).getD q 0 = 0 := fun q => by
    rw [List.getD_eq_getElem?_getD, List.getElem?_replicate]; split <;> rfl
  refine ⟨by simp, fun q => ?_, fun j hj => ?_, fun t x h => by simp at h, rfl⟩
  · show 0 ≤ (List.replicate (Lay.cl P T R) (0 : Int)).getD q 0 ∧ _; rw [hz]; decide
  · show (List.replicate (Lay.cl P T R) (0 : Int)).getD _ 0 = _; rw [hz]; simp [anyT]
theorem bitOf_pow {b : Nat} (hb : b < 64) : bitOf (b : Int) = 2 ^ b := (by decide +kernel : ∀ b : Fin 64, bitOf ((b.1 : Nat) : Int) = 2 ^ b.1) ⟨b, hb⟩
theorem one_start1 {P T R pg b : Nat} {ref : Int} (hr : Lay.right P T R) (hpg : pg < P) (hb : b < 64) : OneI P T R pg b ref true ((⟨List.replicate (Lay.cl P T R) 0, [], true, 0, 0⟩ : AS).poked ((Lay.tb T R + 2 * P + pg : Nat) : Int) (bitOf (b : Int))) [] := by
  have hbs := Lay.bs_ge P T R
  have hcb : Lay.cl P T R = Lay.bs P T R + 64 * P := rfl
  have hz : ∀ q, (List.replicate (Lay.cl P T R) (0 : Int)).getD q 0 = 0 := fun q => by
    rw [List.getD_eq_getElem?_getD, List.getElem?_replicate]; split <;> rfl
  have hp := pow_lt hb
  have hv : ∀ q, ((List.replicate (Lay.cl P T R) (0 : Int)).set (Lay.tb T R + 2 * P + pg) (2 ^ b)).getD q 0 = if q = Lay.tb T R + 2 * P + pg then 2 ^ b else 0 := fun q => by
    rw [getD_set, hz, List.length_replicate]
    by_cases e : q = Lay.tb T R + 2 * P + pg
    · rw [if_pos ⟨e, by omega⟩, if_pos e]
    · rw [if_neg (fun z => e z.1), if_neg e]
  have he : ((⟨List.replicate (Lay.cl P T R) 0, [], true, 0, 0⟩ : AS).poked ((Lay.tb T R + 2 * P + pg : Nat) : Int) (bitOf (b : Int))).cells = (List.replicate (Lay.cl P T R) (0 : Int)).set (Lay.tb T R + 2 * P + pg) (2 ^ b) := by
    show (List.replicate (Lay.cl P T R) (0 : Int)).set ((Lay.tb T R + 2 * P + pg : Nat) : Int).toNat (bitOf (b : Int)) = _
    rw [Int.toNat_natCast, bitOf_pow hb]
  refine ⟨by rw [he, List.length_set, List.length_replicate], fun q => ?_, fun j hj => ?_, fun t x h => by simp at h, rfl⟩
  · rw [he, hv]
    split
    · exact hp
    · exact ⟨Int.le_refl 0, by omega⟩
  · rw [he, hv]
    by_cases e : j = pg
    · rw [if_pos (by omega), if_pos ⟨e, rfl⟩]
    · rw [if_neg (by omega), if_neg (fun z => e z.1)]
theorem mark_at {P T R pg : Nat} (hr : Lay.right P T R) (hpg : pg < P) (x y : Int) : windrowref06_Map_Mark.f P T R x (Lay.tb T R : Nat) y pg = some ((Lay.tb T R + 2 * P + pg : Nat) : Int) := by
  have hbs := Lay.bs_ge P T R
  have hc := Lay.cl_le hr
  have hcb : Lay.cl P T R = Lay.bs P T R + 64 * P := rfl
  unfold windrowref06_Map_Mark.f
  rw [w64 (x := 2 * (P : Int)) (by omega) (by omega), w64 (x := _ + 2 * (P : Int)) (by omega) (by omega), w64 (by omega) (by omega)]
  congr 1
theorem mark_has {P T R pg : Nat} (hr : Lay.right P T R) (hpg : pg < P) : AS.has ⟨List.replicate (Lay.cl P T R) 0, [], true, 0, 0⟩ ((Lay.tb T R + 2 * P + pg : Nat) : Int) = true := by
  have hbs := Lay.bs_ge P T R
  have hcb : Lay.cl P T R = Lay.bs P T R + 64 * P := rfl
  refine decide_eq_true ⟨by omega, ?_⟩
  show ((Lay.tb T R + 2 * P + pg : Nat) : Int) < ((List.replicate (Lay.cl P T R) (0 : Int)).length : Int)
  rw [List.length_replicate]
  omega
/-! ### what a row's growth leaves -/
theorem Shs.grow {B B' e n : Nat} {w w' : World} {v : Value} {us : List Value} {ls : List (Nat × Nat × Nat)} {xs : List SS} (h : Shs B w ls xs) (ho : w.ownsRow B' e 1 v n us) (hF : Fr (fun x => v.ownBlock = some x) w w') (he : e ≠ 98 ∧ e ≠ 95 ∧ e ≠ 131) : Shs B w' ls xs :=
  ⟨h.len, fun i m mk pu x h1 h2 => by
    obtain ⟨hX, hB⟩ := h.sh i m mk pu x h1 h2
    refine ⟨hX.fr hF (fun z => ?_) (fun z => ?_) (fun z => ?_), hB⟩ <;> obtain ⟨cs, h3⟩ := own_touch ho _ z
    · exact blk_ne h3 hX.blk he.1 rfl
    · exact blk_ne h3 hX.mrk he.2.1 rfl
    · exact blk_ne h3 hX.psh he.2.2 rfl, h.dj⟩
theorem box_grow {B' e n k : Nat} {w w' : World} {v : Value} {us : List Value} {cs : Array Value} {t : TypeId} {f : Nat × Nat} (h : w.heap[k]? = some (.cells cs t f)) (ho : w.ownsRow B' e 1 v n us) (hF : Fr (fun x => v.ownBlock = some x) w w') (he : e ≠ t) : w'.heap[k]? = some (.cells cs t f) :=
  hF.blk h (fun z => by
    obtain ⟨cs', h3⟩ := own_touch ho _ z
    exact blk_ne h3 h he rfl)
abbrev newSS (P T R t : Nat) (ref : Int) : SS := ⟨P, T, R, t, ref, 0, false, false, false, 0, 0, 0, false⟩
theorem anyT_snoc (b : Bool) : ∀ l : List Bool, anyT (l ++ [b]) = (anyT l || b)
  | [] => by simp [anyT]
  | a :: l => by simp only [List.cons_append, anyT, anyT_snoc b l, Bool.or_assoc]
theorem one_snoc {P T R pg b : Nat} {ref : Int} {set : Bool} {s : AS} {xs : List SS} (h : OneI P T R pg b ref set s xs) : OneI P T R pg b ref set s (xs ++ [newSS P T R xs.length ref]) := by
  have ed : (xs ++ [newSS P T R xs.length ref]).map SS.done = xs.map SS.done ++ [false] := by simp
  have ef : (xs ++ [newSS P T R xs.length ref]).map SS.fresh = xs.map SS.fresh ++ [false] := by simp
  have ea : anyT (xs.map SS.done ++ [false]) = anyT (xs.map SS.done) := by rw [anyT_snoc, Bool.or_false]
  have ec : cntT (xs.map SS.fresh ++ [false]) = cntT (xs.map SS.fresh) := by rw [cntT_snoc]; rfl
  refine ⟨h.len, h.cw, fun j hj => by rw [ed, ea]; exact h.mks j hj, fun t x hx => ?_, by rw [ed, ef, ea, ec]; exact h.cnt⟩
  by_cases e : t < xs.length
  · rw [List.getElem?_append_left e] at hx; exact h.oks t x hx
  · have ht : t = xs.length := by
      have := (List.getElem?_eq_some_iff.1 hx).1
      simp at this; omega
    subst ht
    rw [List.getElem?_append_right (Nat.le_refl _), Nat.sub_self] at hx
    obtain rfl : newSS P T R xs.length ref = x := by simpa using hx
    exact ⟨rfl, rfl, rfl, rfl, rfl, .inl ⟨rfl, rfl, rfl, rfl⟩, (fun z => by cases z), fun _ => rfl, fun z => absurd rfl z, ⟨Int.le_refl 0, (by show (0 : Int) < 18446744073709551616; decide)⟩⟩
/-- What NewShade asks. -/
theorem one_new {P T R pg b t : Nat} {ref : Int} (hr : Lay.right P T R) (hpg : pg < P) (hb : b < 64) (href : ref = ((Lay.bs P T R + 64 * pg + b : Nat) : Int)) (ht : t < T) :
    layout_Plan_Status.f P T R t = some ((16 + t * (5 + R) : Nat) : Int) ∧ layout_Plan_Base.f P T R = some ((Lay.bs P T R : Nat) : Int) ∧ ref ≠ 0 ∧ layout_Plan_Ref.f P T R ref = some true ∧ ring_right.f P T R t = some true := by
  have hbs := Lay.bs_ge P T R
  have h16 : 16 ≤ Lay.tb T R := by unfold Lay.tb; omega
  have hcb : Lay.cl P T R = Lay.bs P T R + 64 * P := rfl
  have e1 : layout_Plan_Status.f P T R t = some ((16 + t * (5 + R) : Nat) : Int) := by
    rw [Lay.p_status hr, if_pos (by omega)]; congr 1
  refine ⟨e1, Lay.p_base hr, by omega, by rw [Lay.p_ref hr (by omega), decide_eq_true (by omega)], ?_⟩
  unfold ring_right.f; rw [e1]; simp only [Option.bind_some]; exact congrArg some (decide_eq_true (by omega))
/-- A shade that is over already: one step. -/
theorem finish_over {B : Nat} {w : World} {a c p : Nat} {s : AS} {who : Int} {g : Bool} {ps : List (Nat × Int × Bool)} (hs : Sys B w a c s ps) (i : Nat) (hi : ps[i]? = some (p, who, g)) {m mk : Nat} {pu : Option Addr} {lost : Bool} (h : ShB w m mk pu 3 lost) :
    Calls Try.prog 30 #[.pointer (some ⟨p, 0, none⟩), .pointer (some ⟨m, 0, none⟩)] w fun e w' => e = .returned (.int .i64 1) ∧ Did B w w' a c s (ps.set i (p, who, true)) := by
  have HS := Lib.hid hs
  have HI := Lib.hid hi
  have HK := Lib.hid h
  clear hs hi h
  go_enter Try.func30, Try.ntmps30
  go_wp2_with (fail)
  go_loopw [5] (fun v5 wr => v5 = .int .i64 1 ∧ wr = w) (fun v5 _ => 8 - (intOf v5).toNat)
  case atStart => exact ⟨rfl, rfl⟩
  case round =>
    obtain ⟨rfl, rfl⟩ := hrel
    go_wp2_with (first
      | (go_at_call 29; ((have hm := HS.out.grant i HI.out); refine hm.mono ?_; clear hm; rintro e w2 ⟨rfl, hD⟩; (have HK2 := Lib.hid (hD.fr.blk HK.out (not_touch HK.out (blk_ne HK.out (sys_cel HS.out) (by decide)) (by decide)))); (have HD := Lib.hid hD); clear hD))
      | (go_at_call 17; ((have hm := shade_step_over _ m mk pu lost (.pointer (some ⟨p, 0, none⟩)) HK2.out); refine hm.mono ?_; clear hm; rintro e w3 ⟨rfl, hw⟩; obtain rfl := hw.symm)))
    go_ret
    exact ⟨rfl, HD.out⟩
theorem take_snoc {α : Type} {l : List α} {k : Nat} {x : α} (h : l[k]? = some x) : l.take (k + 1) = l.take k ++ [x] := by
  obtain ⟨hl, e⟩ := List.getElem?_eq_some_iff.1 h
  rw [List.take_add_one, h]; rfl
theorem take_set_le {α : Type} {l : List α} {k j : Nat} {x : α} (h : k ≤ j) : (l.set j x).take k = l.take k := by
  rw [List.take_set_of_le h]
/-- The mark of each word of the heap. -/
theorem bitSet_pow {b c : Nat} (hb : b < 64) (hc : c < 64) : bitSet (2 ^ b) (c : Int) = decide (c = b) ∧ bitSet 0 (c : Int) = false :=
  (by decide +kernel : ∀ b c : Fin 64, bitSet (2 ^ b.1) ((c.1 : Nat) : Int) = decide (c.1 = b.1) ∧ bitSet 0 ((c.1 : Nat) : Int) = false) ⟨b, hb⟩ ⟨c, hc⟩
theorem marked_at {P T R pg b n : Nat} (hr : Lay.right P T R) (hpg : pg < P) (hb : b < 64) (hn : Lay.bs P T R ≤ n ∧ n < Lay.cl P T R) {cells : List Int} (hlen : cells.length = Lay.cl P T R) (hm : ∀ j, j < P → cells.getD (Lay.tb T R + 2 * P + j) 0 = if j = pg then 2 ^ b else 0) :
    ∃ pg' b' q : Nat, layout_Plan_Ref.f P T R (n : Int) = some true ∧ layout_Plan_Place.f P T R (wrap64 (n : Int)) = some ((pg' : Int), (b' : Int)) ∧ layout_Plan_Mark.f P T R (pg' : Int) = some (q : Int) ∧ q < cells.length ∧ bitSet (cells.getD q 0) (b' : Int) = decide (n = Lay.bs P T R + 64 * pg + b) := by
  have hbs := Lay.bs_ge P T R
  have hcl := Lay.cl_le hr
  have hcb : Lay.cl P T R = Lay.bs P T R + 64 * P := rfl
  have hp : (n - Lay.bs P T R) / 64 < P := by omega
  have hb' : (n - Lay.bs P T R) % 64 < 64 := Nat.mod_lt _ (by omega)
  refine ⟨(n - Lay.bs P T R) / 64, (n - Lay.bs P T R) % 64, Lay.tb T R + 2 * P + (n - Lay.bs P T R) / 64, ?_, ?_, ?_, by omega, ?_⟩
  · rw [Lay.p_ref hr (by omega), decide_eq_true (by omega)]
  · rw [w64 (by omega) (by omega), Lay.p_place hr (by omega), if_pos (by omega)]
    congr 1
    rw [Prod.mk.injEq]; omega
  · rw [Lay.p_mark hr, if_pos (by omega)]; congr 1
  · rw [hm _ hp]
    obtain ⟨x1, x2⟩ := bitSet_pow hb hb'
    by_cases e : (n - Lay.bs P T R) / 64 = pg
    · rw [if_pos e, x1]
      rw [decide_eq_decide]; omega
    · rw [if_neg e, x2]
      symm
      rw [decide_eq_false_iff_not]; omega
/-- When all are over. -/
theorem one_done {P T R pg b : Nat} {ref : Int} {set : Bool} {s : AS} {xs : List SS} (h : OneI P T R pg b ref set s xs) (hx : 0 < xs.length) (h3 : ∀ (j : Nat) x, xs[j]? = some x → x.at_ = 3) :
    cntT (xs.map SS.fresh) = (if set = true then 0 else 1) ∧ ∀ j, j < P → s.cells.getD (Lay.tb T R + 2 * P + j) 0 = if j = pg then 2 ^ b else 0 := by
  obtain ⟨x, e⟩ : ∃ x, xs[0]? = some x := ⟨_, List.getElem?_eq_getElem hx⟩
  have hd := (h.oks 0 x e).d1 (by rw [h3 0 x e]; decide)
  have ha : anyT (xs.map SS.done) = true := anyT_of (t := 0) (by rw [List.getElem?_map, e]; exact congrArg some hd)
  refine ⟨by rw [h.cnt, ha]; cases set <;> rfl, fun j hj => ?_⟩
  rw [h.mks j hj, ha, Bool.or_true]
  by_cases e : j = pg
  · rw [if_pos ⟨e, rfl⟩, if_pos e]
  · rw [if_neg (fun z => e z.1), if_neg e]
/-- Which shade takes the step. -/
theorem idx_of (x : Int) {T : Nat} (h1 : 1 ≤ T) (h2 : T ≤ 6) : ∃ k : Nat, k < T ∧ wrap64 (Int.tmod (IntKind.u64.wrap x) (T : Int)) = k := by
  obtain ⟨k, hk, e⟩ := cut8 x (m := (T : Int)) (by omega) (by omega)
  exact ⟨k, by omega, e⟩
theorem cntT_le : ∀ l : List Bool, cntT l ≤ l.length
  | [] => Nat.le_refl _
  | b :: l => by
    have := cntT_le l
    simp only [cntT, List.length_cons]
    split <;> omega
theorem fresh_snoc {xs : List SS} {k : Nat} {x y : SS} (h : xs[k]? = some x) : cntT ((xs.map SS.fresh).take (k + 1)) = cntT ((xs.map SS.fresh).take k) + (if x.fresh = true then 1 else 0) := by
  rw [take_snoc (x := x.fresh) (by rw [List.getElem?_map, h]; rfl), cntT_snoc]
theorem done_snoc {xs : List SS} {k : Nat} {x : SS} (h : ∀ (j : Nat) x, j < k → xs[j]? = some x → x.at_ = 3) (hx : xs[k]? = some x) (h3 : x.at_ = 3) : ∀ (j : Nat) x, j < k + 1 → xs[j]? = some x → x.at_ = 3 := fun j y hj hy => by
  by_cases e : j = k
  · subst e
    rw [hx] at hy
    obtain rfl := Option.some.inj hy
    exact h3
  · exact h j y (by omega) hy
theorem one_ps {ps : List (Nat × Int × Bool)} {p : Nat} {who : Int} {g : Bool} (h : ps[0]? = some (p, who, g)) (hl : ps.length = 1) : ps = [(p, who, g)] := by
  match ps, h, hl with
  | [x], h, _ => simp at h; rw [h]
theorem done_set {xs : List SS} {k : Nat} {y : SS} (h : ∀ (j : Nat) x, j < k → xs[j]? = some x → x.at_ = 3) : ∀ (j : Nat) x, j < k → (xs.set k y)[j]? = some x → x.at_ = 3 := fun j x hj hx => by
  rw [List.getElem?_set_ne (by omega)] at hx
  exact h j x hj hx
end Go.Proofs.Ytcnledehnefldaa.Ar

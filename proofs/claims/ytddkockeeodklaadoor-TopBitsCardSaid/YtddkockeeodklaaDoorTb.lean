/- TopBits, walked. -/
import Derived.Test.YtddkockeeodklaaDoorSys
import Derived.Test.YtddkockeeodklaaDoorMkD
import Derived.LoopTactic
import Derived.IntWalk
import Derived.Deep.Cut
import Derived.Deep.DeepCutAuto
namespace Go.Proofs.YtddkockeeodklaaDoor.Pure
open Go.RowKit Go.Proofs.YtddkockeeodklaaDoor.PAll Go.Proofs.YtddkockeeodklaaDoorW.PrintWords Go.Proofs.YtddkockeeodklaaDoorW.PrintLast Go.Proofs.YtddkockeeodklaaDoorW.PrintMore
open Go.Proofs.YtddkockeeodklaaDoor.Eo Go.Proofs.YtddkockeeodklaaDoor.Wd Go.Proofs.YtddkockeeodklaaDoor.Bt Go.Proofs.YtddkockeeodklaaDoor.Wp Go.Proofs.YtddkockeeodklaaDoor.Mk
set_option linter.unusedVariables false
set_option linter.unusedSimpArgs false

theorem W_pow {p : Nat} (h : p < 64) : W (2 ^ p) := by
  have : (2 : Nat) ^ p < 2 ^ 64 := Nat.pow_lt_pow_right (by decide) h
  have e : (2 : Int) ^ p = ((2 ^ p : Nat) : Int) := by rw [Int.natCast_pow]; rfl
  rw [e]; exact W_nat this
theorem tb_pow (p i : Nat) : tb (2 ^ p) i = decide (i = p) := by
  have e : (2 : Int) ^ p = ((2 ^ p : Nat) : Int) := by rw [Int.natCast_pow]; rfl
  rw [e, tb_nat, Nat.testBit_two_pow]
  by_cases h : i = p
  · rw [decide_eq_true h, decide_eq_true h.symm]
  · rw [decide_eq_false h, decide_eq_false (fun z => h z.symm)]
theorem W_umax : W IntKind.u64.max := W_ones
theorem and_xor {x y : Int} (hx : W x) (hy : W y) : Go.bits .and .u64 x (Go.bits .xor .u64 IntKind.u64.max y) = Go.bits .andNot .u64 x y := by
  refine ext (W_and hx (W_xor W_umax hy)) (W_andNot hx hy) fun i hi => ?_
  rw [tb_and hx (W_xor W_umax hy), tb_xor W_umax hy, tb_andNot hx hy]
  rw [show tb IntKind.u64.max i = decide (i < 64) from tb_ones i, decide_eq_true hi]
  simp
theorem and_pow {x : Int} (hx : W x) {p : Nat} (hp : p < 64) : (Go.bits .and .u64 x (2 ^ p) == 0) = !tb x p := by
  have hw := W_and hx (W_pow hp)
  have ht := fun i => tb_and hx (W_pow hp) i
  generalize Go.bits .and .u64 x (2 ^ p) = z at hw ht
  cases h : tb x p with
  | true =>
    have : z ≠ 0 := by
      rintro rfl
      have := ht p
      rw [tb_zero, h, tb_pow, decide_eq_true rfl] at this
      cases this
    simp [this]
  | false =>
    have : z = 0 := by
      refine ext hw W_zero fun i hi => ?_
      rw [ht, tb_zero, tb_pow]
      by_cases e : i = p
      · subst e; rw [h]; rfl
      · rw [decide_eq_false e]; simp
    simp [this]

/-- The arena's cells hold the places of the list. -/
structure Inv (CS WL : List Int) : Prop where
  cw : AllW CS
  c8 : CS.length = 8
  ww : AllW WL
  w8 : WL.length ≤ 8
  eq : ∀ i, mem CS i = mem WL i

theorem Inv.zero : Inv (List.replicate 8 0) [] := ⟨AllW.zeros 8, by simp, fun x hx => (by cases hx), by simp, fun i => by rw [mem_zeros]; exact (mem_high (by simp)).symm⟩

variable {CS WL : List Int}
theorem Inv.or_ (h : Inv CS WL) {a : Nat} (ha : a < 512) : ∃ out, mask_With.f WL (a : Int) = some (out, 0) ∧ Inv (CS.set (a / 64) (Go.bits .or .u64 (CS.getD (a / 64) 0) (2 ^ (a % 64)))) out := by
  obtain ⟨out, h1, h2, h3, h4⟩ := with_yes h.ww (by have := h.w8; omega) (a := a) (by omega)
  have hs := set_bit h.cw (a := a) (by have := h.c8; omega) rfl
  exact ⟨out, h4, hs.1, by rw [List.length_set]; exact h.c8, h1, by have := h.w8; omega, fun i => by rw [hs.2, h3, h.eq]⟩
theorem Inv.and_ (h : Inv CS WL) {a : Nat} (ha : a < 512) : ∃ out k, mask_Without.f k WL (a : Int) = some (out, 0) ∧ Inv (CS.set (a / 64) (Go.bits .and .u64 (CS.getD (a / 64) 0) (Go.bits .xor .u64 IntKind.u64.max (2 ^ (a % 64))))) out := by
  obtain ⟨out, h1, h2, h3, k, h4⟩ := without_yes h.ww (by have := h.w8; omega) (a := a) (by omega)
  have hs := clear_bit h.cw (a := a) (by have := h.c8; omega) rfl
  rw [and_xor (h.cw.getD _) (W_pow (by omega))]
  exact ⟨out, k, h4 k (Nat.le_refl _), hs.1, by rw [List.length_set]; exact h.c8, h1, by have := h.w8; omega, fun i => by rw [hs.2, h3, h.eq]⟩
theorem Inv.has (h : Inv CS WL) {a : Nat} (ha : a < 512) : mask_Has.f WL (a : Int) = some (mem WL a) := hasn h.ww (by have := h.w8; omega) (by omega)
theorem Inv.bit (h : Inv CS WL) {a : Nat} (ha : a < 512) : (Go.bits .and .u64 (CS.getD (a / 64) 0) (2 ^ (a % 64)) == 0) = !mem WL a := by
  rw [and_pow (h.cw.getD _) (by omega), ← h.eq]
  rfl
theorem Inv.same (h : Inv CS WL) : ∃ k, mask_Same.f k CS WL = some true := by
  obtain ⟨k, hk⟩ := same_eo h.cw h.ww (by have := h.c8; omega) (by have := h.w8; omega)
  have e : (sub CS WL && sub WL CS) = true := by
    rw [Bool.and_eq_true]
    exact ⟨sub_iff.mpr fun i hi => by rw [← h.eq]; exact hi, sub_iff.mpr fun i hi => by rw [h.eq]; exact hi⟩
  exact ⟨k, (hk k (Nat.le_refl _)).trans (by rw [e])⟩
theorem Inv.count (h : Inv CS WL) : ∃ k k' n, mask_Count.f k CS = some n ∧ mask_Count.f k' WL = some n := by
  obtain ⟨k, hk⟩ := count_eo h.cw (by have := h.c8; omega)
  obtain ⟨k', hk'⟩ := count_eo h.ww (by have := h.w8; omega)
  refine ⟨k, k', _, hk k (Nat.le_refl _), ?_⟩
  refine (hk' k' (Nat.le_refl _)).trans ?_
  rw [← size_to CS (n := 512) (by have := h.c8; omega), ← size_to WL (n := 512) (by have := h.w8; omega), show mem CS = mem WL from funext h.eq]
end Go.Proofs.YtddkockeeodklaaDoor.Pure

namespace Go.Proofs.YtddkockeeodklaaDoor.Ar
open Go Go.RowKit Go.Proofs.YtddkockeeodklaaDoor.Hp Go.Proofs.YtddkockeeodklaaDoor.Pure
open Go.Proofs.YtddkockeeodklaaDoor.PAll Go.Proofs.YtddkockeeodklaaDoorW.PrintWords Go.Proofs.YtddkockeeodklaaDoor.Wd
set_option linter.unusedVariables false
set_option linter.unusedSimpArgs false

theorem infoPt : (Tryd.prog.info? 29).map (fun i => (i.zero, i.size, i.bytes)) = some (some (.pointer none), 1, 8) := by kernel_rfl
theorem own_touch {B : Nat} {w : World} {e : Nat} {size n : Nat} {lv : Value} {xs : List Value} (hl : w.ownsRow B e size lv n xs) (k : Nat) (hk : lv.ownBlock = some k) : ∃ cs, w.heap[k]? = some (.cells cs e (0, 0)) := by
  rcases hl.2 with ⟨rfl, _⟩ | ⟨g, cap, cur, rfl, _, hg, _⟩
  · simp [Value.ownBlock] at hk
  · simp only [Value.ownBlock, Option.some.injEq] at hk
    subst hk
    exact ⟨cur, hg⟩
theorem own_still {B e n : Nat} {w w' : World} {v : Value} {xs : List Value} (h : w.ownsRow B e 1 v n xs) (hF : Fr (fun _ => False) w w') : w'.ownsRow B e 1 v n xs := own_fr h hF fun _ _ h => h
theorem own_bel {B e n : Nat} {w w' : World} {v : Value} {xs : List Value} (h : w.ownsRow B e 1 v n xs) (hb : Below w.heap.size w w') : w'.ownsRow B e 1 v n xs := own_still h ((Fr.refl _ w).below hb)
theorem own_down {B B' e n : Nat} {w : World} {v : Value} {xs : List Value} (h : w.ownsRow B' e 1 v n xs) (hB : B ≤ B') : w.ownsRow B e 1 v n xs := by
  refine ⟨h.1, ?_⟩
  rcases h.2 with h2 | ⟨g, cap, cur, h1, h3, h4⟩
  · exact .inl h2
  · exact .inr ⟨g, cap, cur, h1, Nat.le_trans hB h3, h4⟩
/-- A row that is no memory of the arena's. -/
theorem row_kept {B c : Nat} {w w' : World} {e n : Nat} {v : Value} {xs : List Value} (hF : Fr (Touch c w) w w') (ho : w.ownsRow B e 1 v n xs) (hc : v.ownBlock ≠ some c) (he : e ≠ 61 ∧ e ≠ 63 ∧ e ≠ 76) : w'.ownsRow B e 1 v n xs :=
  own_fr ho hF fun k hk => by
    obtain ⟨cs, h2⟩ := own_touch ho k hk
    exact not_touch h2 (fun e => hc (by rw [hk, e])) he
theorem sys_cel {B a c : Nat} {w : World} {s : AS} {ps : List (Nat × Int × Bool)} (h : Sys B w a c s ps) : w.heap[c]? = some (.cells (s.cells.map (Value.int .u64)).toArray 33 (0, 0)) := by
  obtain ⟨lv, hA⟩ := h.ar
  exact hA.cel
theorem ne_cel {B a c : Nat} {w : World} {s : AS} {ps : List (Nat × Int × Bool)} {e n : Nat} {v : Value} {xs : List Value} (h : Sys B w a c s ps) (ho : w.ownsRow B e 1 v n xs) (he : e ≠ 33) : v.ownBlock ≠ some c := fun hk => by
  obtain ⟨cs, h2⟩ := own_touch ho c hk
  exact Hp.blk_ne h2 (sys_cel h) he rfl
theorem fr_app {w w' : World} {X : Obj} {v : Value} (g : (w.alloc X).grownBy w' v.ownBlock) : Fr (fun x => v.ownBlock = some x) w w' := ((Fr.refl _ w).alloc X).grown g (fun k hk => .inl hk)
/-- A row of another type than the arena's is turned. -/
theorem sys_grow {B : Nat} {w w' : World} {a c : Nat} {s : AS} {ps : List (Nat × Int × Bool)} {e n : Nat} {v : Value} {xs : List Value} (h : Sys B w a c s ps) (ho : w.ownsRow B e 1 v n xs) (hF : Fr (fun x => v.ownBlock = some x) w w') (hc : v.ownBlock ≠ some c) (he : e ≠ 61 ∧ e ≠ 63 ∧ e ≠ 76) : Sys B w' a c s ps :=
  h.fr hF fun k hk hs => by
    obtain ⟨cs, h2⟩ := own_touch ho k hs
    exact not_touch h2 (fun e => hc (by rw [hs, e])) he
def ptrs (l : List Nat) : List Value := l.map fun x => .pointer (some ⟨x, 0, none⟩)
theorem ptrs_snoc (l : List Nat) (x : Nat) : ptrs (l ++ [x]) = ptrs l ++ [.pointer (some ⟨x, 0, none⟩)] := by simp [ptrs]
theorem ptr_cell {B e n : Nat} {w : World} {v : Value} {l : List Nat} (h : w.ownsRow B e 1 v n (ptrs l)) (hn : 0 < n) : ∃ g cap, v = .slice (some ⟨g, 0, none⟩) n cap ∧ (∃ cs, w.heap[g]? = some (.cells cs e (0, 0))) ∧ ∀ i x, i < n → l[i]? = some x → w.cell? ⟨g, i, none⟩ = some (.pointer (some ⟨x, 0, none⟩)) := by
  rcases h.2 with ⟨_, h2⟩ | ⟨g, cap, cur, rfl, h3, h4, h5, h6, h7, h8⟩
  · omega
  · refine ⟨g, cap, rfl, ⟨cur, h4⟩, fun i x hi hx => ?_⟩
    have e1 := congrArg (fun l => l[i]?) h8
    simp only [ptrs, List.getElem?_map] at e1
    rw [List.getElem?_take_of_lt (by omega), hx, Array.getElem?_toList] at e1
    simp [World.cell?, h4, e1]
theorem ptr_at {B e n g cap : Nat} {w : World} {l : List Nat} (h : w.ownsRow B e 1 (.slice (some ⟨g, 0, none⟩) n cap) n (ptrs l)) {i x : Nat} (hi : i < n) (hx : l[i]? = some x) : w.cell? ⟨g, i, none⟩ = some (.pointer (some ⟨x, 0, none⟩)) := by
  obtain ⟨g', cap', he, _, hc⟩ := ptr_cell h (by omega)
  injection he with h1 _ _
  injection h1 with h1
  injection h1 with h1 _ _
  subst h1
  exact hc i x hi hx
theorem set_get {α : Type} {l : List α} {i : Nat} {x y : α} (h : l[i]? = some x) : (l.set i y)[i]? = some y := by
  obtain ⟨hi, _⟩ := List.getElem?_eq_some_iff.1 h
  rw [List.getElem?_set_self hi]
/-- The ports' addresses. -/
def PL (ps : List (Nat × Int × Bool)) (pl : List Nat) (n : Nat) : Prop := pl.length = n ∧ ps.length = n ∧ ∀ i, i < n → ∃ p who g, pl[i]? = some p ∧ ps[i]? = some (p, who, g)
theorem PL.nil : PL [] [] 0 := ⟨rfl, rfl, fun i hi => by omega⟩
theorem PL.snoc {ps : List (Nat × Int × Bool)} {pl : List Nat} {n : Nat} (h : PL ps pl n) (p : Nat) (who : Int) (g : Bool) : PL (ps ++ [(p, who, g)]) (pl ++ [p]) (n + 1) := by
  obtain ⟨h1, h2, h3⟩ := h
  refine ⟨by simp [h1], by simp [h2], fun i hi => ?_⟩
  by_cases e : i < n
  · obtain ⟨q, who', g', a, b⟩ := h3 i e
    exact ⟨q, who', g', by rw [List.getElem?_append_left (by omega)]; exact a, by rw [List.getElem?_append_left (by omega)]; exact b⟩
  · obtain rfl : i = n := by omega
    refine ⟨p, who, g, ?_, ?_⟩
    · rw [List.getElem?_append_right (by omega), h1]; simp
    · rw [List.getElem?_append_right (by omega), h2]; simp
theorem PL.set {ps : List (Nat × Int × Bool)} {pl : List Nat} {n i p : Nat} {who : Int} {g : Bool} (h : PL ps pl n) (hi : ps[i]? = some (p, who, g)) (g' : Bool) : PL (ps.set i (p, who, g')) pl n := by
  obtain ⟨h1, h2, h3⟩ := h
  refine ⟨h1, by simp [h2], fun j hj => ?_⟩
  obtain ⟨q, who', g2, a, b⟩ := h3 j hj
  by_cases e : i = j
  · subst e
    rw [hi] at b
    simp only [Option.some.injEq, Prod.mk.injEq] at b
    obtain ⟨rfl, rfl, _⟩ := b
    exact ⟨p, who, g', a, set_get hi⟩
  · exact ⟨q, who', g2, a, by rw [List.getElem?_set_ne e]; exact b⟩
/-- A granted access to a cell that is there. -/
theorem acc_yes {s : AS} {who kind put : Int} {q : Nat} (hq : q < s.cells.length) : (s.acc true who kind q 0 put).2 = s.cells.getD q 0 ∧ (s.acc true who kind q 0 put).1.cells = s.cells.set q (leftOf kind (s.cells.getD q 0) 0 put) ∧ (s.acc true who kind q 0 put).1.faults = s.faults ∧ (s.acc true who kind q 0 put).1.log.length ≤ s.log.length + 1 := by
  have h : (true = true ∧ s.has (q : Int) = true) := ⟨rfl, decide_eq_true ⟨by omega, by omega⟩⟩
  unfold AS.acc
  rw [if_pos h]
  simp only [AS.done, Int.toNat_natCast, true_and]
  split <;> simp
theorem C_own {B e : Nat} {w : World} {v : Value} {k : IntKind} {xs : List Int} (h : w.ownsRow B e 1 v xs.length (xs.map (Value.int k))) : ∃ A cap, v = .slice A xs.length cap ∧ xs.length ≤ cap ∧ Kd.C (Kd.int k) w A xs.length xs := by
  obtain ⟨A, c, rfl, hr⟩ := own_reads h
  exact ⟨A, c, rfl, own_cap h, Kd.C_of_reads (d := (0 : Int)) (h1 := fun _ => rfl) hr⟩
theorem C_sl {B e cap : Nat} {w : World} {A : Option Addr} {k : IntKind} {xs : List Int} (h : w.ownsRow B e 1 (.slice A xs.length cap) xs.length (xs.map (Value.int k))) : Kd.C (Kd.int k) w A xs.length xs := by
  obtain ⟨A', c', e1, _, h2⟩ := C_own h
  injection e1 with e1 _ _
  subst e1
  exact h2
theorem row_new {B c : Nat} {w w' : World} {v : Value} {r : List Int} (h : Kd.R (Kd.int .u64) 33 w' w.heap.size (fun _ => True) v r) (hB : B ≤ w.heap.size) (hc : c < w.heap.size) : w'.ownsRow B 33 1 v r.length (r.map (Value.int .u64)) ∧ v.ownBlock ≠ some c := by
  have ho := Kd.own_of_R h
  exact ⟨own_down ho hB, fun hk => by have := own_base ho c hk; omega⟩
theorem wrap_W {x : Int} (h : W x) : IntKind.u64.wrap x = x := by
  rw [IntKind.wrap_u64]
  unfold W at h
  omega
theorem frBel {w w' : World} (h : Fr (fun _ => False) w w') : Below w.heap.size w w' := ⟨h.os, h.tape, h.output, h.size, fun k hk => h.block k hk id⟩
theorem has_lt {CS : List Int} {WL : List Int} (h : Inv CS WL) : CS.length = 8 := h.c8
theorem row_ints {k : IntKind} {w : World} {A : Option Addr} {n : Nat} {xs : List Int} (h : Kd.C (Kd.int k) w A n xs) (hn : 0 < n) : ∃ ad, A = some ad ∧ ∀ i, i < n → w.cell? (ad.add i) = some (.int k (xs.getD i 0)) := by
  obtain ⟨ad, e, hc⟩ := h.2.2 hn
  refine ⟨ad, e, fun i hi => ?_⟩
  have hl : i < xs.length := by have := h.1; omega
  obtain ⟨c, hs, hr, hcell⟩ := hc i _ (List.getElem?_eq_getElem hl)
  have hr' : c = [.int k xs[i]] := hr
  subst hr'
  have := hcell 0 (.int k xs[i]) rfl
  have e1 : (Kd.int k).sz = 1 := rfl
  rw [e1, Nat.mul_one, Nat.add_zero] at this
  rw [this, List.getD_eq_getElem?_getD, List.getElem?_eq_getElem hl]
  rfl
/-- The place, the cell, the bit. -/
theorem place_of (x : Int) : ∃ a : Nat, a < 512 ∧ wrap64 (Int.tmod (IntKind.u64.wrap x) 512) = a ∧ wrap64 (Int.tdiv (a : Int) 64) = ((a / 64 : Nat) : Int) ∧ shl .u64 1 (Int.tmod (a : Int) 64) = 2 ^ (a % 64) := by
  have hx := (W_wrap x).1
  have e : Int.tmod (IntKind.u64.wrap x) 512 = IntKind.u64.wrap x % 512 := Int.tmod_eq_emod_of_nonneg hx
  refine ⟨(IntKind.u64.wrap x % 512).toNat, by omega, ?_, ?_, ?_⟩
  · rw [e]; unfold wrap64; omega
  · exact Mk.dv (by omega)
  · rw [Mk.md]; exact Mk.shl1 (by omega)
theorem port_of (x : Int) : ∃ a : Nat, a < 4 ∧ wrap64 (Int.tmod (IntKind.u64.wrap x) 4) = a := by
  have hx := (W_wrap x).1
  have e : Int.tmod (IntKind.u64.wrap x) 4 = IntKind.u64.wrap x % 4 := Int.tmod_eq_emod_of_nonneg hx
  refine ⟨(IntKind.u64.wrap x % 4).toNat, by omega, ?_⟩
  rw [e]; unfold wrap64; omega


set_option maxHeartbeats 2000000 in
set_option maxRecDepth 100000 in
theorem bits (A0 : Option Addr) (c0 : Nat) (l0 : List Int) (A1 : Option Addr) (c1 : Nat) (l1 : List Int) (A2 : Option Addr) (c2 : Nat) (l2 : List Bool) (w : World) (hL : LAID w)
    (hr0 : Kd.C (Kd.int .i64) w A0 l0.length l0) (hr1 : Kd.C (Kd.int .i64) w A1 l1.length l1) (hr2 : Kd.C Kd.bool w A2 l2.length l2) :
    Calls Tryd.prog 3 #[.slice A0 l0.length c0, .slice A1 l1.length c1, .slice A2 l2.length c2] w fun e w' => e = .returned (.bool true) ∧ Below w.heap.size w w' := by
  have HL := Lib.hid hL
  have HR0 := Lib.hid hr0
  have HR1 := Lib.hid hr1
  have HR2 := Lib.hid hr2
  have hm0 : l0.length ≤ 9223372036854775807 := hr0.2.1
  have hm1 : l1.length ≤ 9223372036854775807 := hr1.2.1
  have hm2 : l2.length ≤ 9223372036854775807 := hr2.2.1
  clear hL hr0 hr1 hr2
  obtain ⟨i1, hi1, hy0, hy1, hy2⟩ : ∃ i, Tryd.prog.info? 29 = some i ∧ i.zero = some (.pointer none) ∧ i.size = 1 ∧ i.bytes = 8 := by
    have h := infoPt
    cases hh : Tryd.prog.info? 29 with
    | none => rw [hh] at h; cases h
    | some i =>
      rw [hh] at h
      simp only [Option.map_some, Option.some.injEq, Prod.mk.injEq] at h
      exact ⟨i, rfl, h.1, h.2.1, h.2.2⟩
  have hnew := sys_new w.heap.size w 8 true (by omega) (by omega) (Nat.le_refl _)
  rw [show ((8 : Nat) : Int) = 8 from rfl] at hnew
  go_enter Tryd.func3, Tryd.ntmps3
  go_wp2_with (first
    | (go_at_call 5; (with_reducible refine hnew.mono ?_; clear hnew; rintro e w3 ⟨a, c, rfl, hS, hb, ha, hc⟩; (have HB0 := Lib.hid hb); (have HS := Lib.hid hS); clear hS hb)))
  go_loopw [9, 10] (fun v1 i wr => ∃ (k : Nat) (pl : List Nat) (ps : List (Nat × Int × Bool)), k ≤ 4 ∧ i = .int .i64 k ∧ Hid (Sys w.heap.size wr a c ⟨List.replicate 8 0, [], true, 0, 0⟩ ps) ∧ Hid (PL ps pl k) ∧ Hid (wr.ownsRow w.heap.size 29 1 v1 k (ptrs pl)) ∧ Hid (Below w.heap.size w wr)) (fun v1 i _ => 4 - (intOf i).toNat)
  case atStart => exact ⟨0, [], [], by omega, rfl, HS, Lib.hid PL.nil, Lib.hid (World.ownsRow_nil _ _ _ _), HB0⟩
  case round =>
    obtain ⟨k, pl, ps, hk, rfl, HS1, HPL, HP, HB⟩ := hrel
    clear HS HB0
    by_cases hk4 : k < 4
    · have HPo := Lib.hid (HS1.out.port (k : Int) (by omega) (by omega))
      go_wp2_with (first
        | (go_at_call 6; (with_reducible refine HPo.out.mono ?_; clear HPo; rintro e w5 ⟨p, rfl, hS, hb, -⟩; replace HS1 := Lib.hid hS; replace HP := Lib.hid (own_bel HP.out hb); replace HB := Lib.hid (HB.out.trans (hb.mono HB.out.size)); clear hS hb))
        | (at_builtin; (refine wpList_append_own _ rfl _ _ 28 rfl w.heap.size 29 i1 _ 1 8 Tryd.underlying28 hi1 hy0 hy1 hy2 rfl (by decide) _ _ _ rfl (own_still HP.out ((Fr.refl _ _).alloc _)) ⟨w5.heap.size, 0, none⟩ 1 1 [.pointer (some ⟨p, 0, none⟩)] rfl rfl (World.news_of_block (Hp.blk_new w5 _)) (by simp [Value.oneCell']) (by unfold maxLen; omega) (by omega) (by have := HB.out.size; simp; omega) ?_; intro v6 w6 own6 grow6 _; (have hF6 := fr_app grow6); replace HS1 := Lib.hid (sys_grow HS1.out HP.out hF6 (ne_cel HS1.out HP.out (by decide)) (by decide)); replace HB := Lib.hid (Fr.toBelow HB.out HB.out.size hF6 (fun k hk => (HP.out.lt k hk).1)); clear HP; (have HP := Lib.hid own6); clear own6 grow6 hF6)))
      go_roundw
      case rel =>
        refine ⟨k + 1, pl ++ [p], _, by omega, by go_num, HS1, Lib.hid (HPL.out.snoc p (k : Int) false), ?_, HB⟩
        rw [ptrs_snoc]
        exact HP
      case measure => simp [intOf]; omega
    · have h3 : (k : Int) = 4 := by omega
      simp only [h3]
      clear h3
      obtain rfl : k = 4 := by omega
      obtain ⟨g1, cap1, rfl, -, -⟩ := ptr_cell HP.out (by omega)
      clear hk4 hk
      go_wp2_with (fail)
      go_loopw [8, 13, 14, 15] (fun v8 v13 v14 i wr => ∃ (k : Nat) (s : AS) (ps : List (Nat × Int × Bool)) (WL : List Int), k ≤ l1.length ∧ k ≤ 300 ∧ i = .int .i64 k ∧ v8 = .int .i64 0 ∧ v14 = .int .i64 0 ∧ Hid (Sys w.heap.size wr a c s ps) ∧ Hid (PL ps pl 4) ∧ Hid (Below w.heap.size w wr) ∧ Hid (Inv s.cells WL) ∧ Hid (s.faults = 0 ∧ s.log.length ≤ k) ∧ Hid (wr.ownsRow w.heap.size 29 1 (.slice (some ⟨g1, 0, none⟩) 4 cap1) 4 (ptrs pl)) ∧ Hid (wr.ownsRow w.heap.size 33 1 v13 WL.length (WL.map (Value.int .u64)) ∧ v13.ownBlock ≠ some c)) (fun v8 v13 v14 i _ => 300 - (intOf i).toNat)
      case atStart => exact ⟨0, _, _, [], Nat.zero_le _, Nat.zero_le _, rfl, rfl, rfl, HS1, HPL, HB, Lib.hid Inv.zero, Lib.hid ⟨rfl, Nat.le_refl _⟩, HP, Lib.hid ⟨World.ownsRow_nil _ _ _ _, by simp [Value.ownBlock]⟩⟩
      case round =>
        obtain ⟨k, s, ps2, WL, hk1, hk3, rfl, rfl, rfl, HS2, HPL2, HB2, HI, HF, HP2, HW⟩ := hrel
        clear HS1 HPL HP HB
        obtain ⟨AW, cW, rfl, hcW, hCW⟩ := C_own HW.out.1
        have HCW := Lib.hid hCW
        have HcW := Lib.hid hcW
        clear hCW hcW
        by_cases hend : k < l1.length ∧ k < 300
        · obtain ⟨hkr, hk4⟩ := hend
          obtain ⟨ad1, hA1, rr1⟩ := row_ints (Kd.C_below HR1.out HB2.out) (by omega)
          subst hA1
          have r1 := rr1 k hkr
          clear rr1
          obtain ⟨x1, hx1⟩ : ∃ x, x = l1.getD k 0 := ⟨_, rfl⟩
          rw [← hx1] at r1
          clear hx1
          obtain ⟨at_, hat, e1, e2, e3⟩ := place_of x1
          obtain ⟨outO, hwO, hiO⟩ := HI.out.or_ hat
          obtain ⟨outA, kA, hwA, hiA⟩ := HI.out.and_ hat
          have hha := HI.out.has hat
          have hbt := HI.out.bit hat
          have hq8 : at_ / 64 < s.cells.length := by have := HI.out.c8; omega
          obtain ⟨q, hqe⟩ : ∃ q, q = at_ / 64 := ⟨_, rfl⟩
          rw [← hqe] at e2 hiO hiA hbt hq8
          obtain ⟨bt, hbte⟩ : ∃ bt : Int, bt = 2 ^ (at_ % 64) := ⟨_, rfl⟩
          rw [← hbte] at e3 hiO hiA hbt
          have hWp : W (2 ^ (at_ % 64)) := W_pow (by omega)
          have e5 : IntKind.u64.wrap (2 ^ (at_ % 64)) = bt := by rw [hbte]; exact wrap_W hWp
          have HQE := Lib.hid hqe
          have E5 := Lib.hid e5
          have e6 : wrap64 ((at_ : Int) / 64) = (q : Int) := by rw [hqe]; unfold wrap64; omega
          have E2 := Lib.hid e6
          clear hWp e2 e5 e3 e6 hqe hbte
          obtain ⟨sn, hsn⟩ : ∃ sn, sn = s.cells.getD q 0 := ⟨_, rfl⟩
          rw [← hsn] at hbt
          have HSN := Lib.hid hsn
          clear hsn
          have HWO := Lib.hid hwO
          have HIO := Lib.hid hiO
          have HWA := Lib.hid hwA
          have HIA := Lib.hid hiA
          have HHA := Lib.hid hha
          have HBT := Lib.hid hbt
          have HQL := Lib.hid hq8
          clear hwO hiO hwA hiA hha hbt hq8 hat
          go_upto_if 55 with (fail)
          go_cut [16] (fun v16 wx => wx = wr ∧ ∃ kk : Nat, kk < 4 ∧ v16 = .int .i64 kk)
          case first =>
            by_cases hp : k < l0.length
            · obtain ⟨ad0, rfl, rr0⟩ := row_ints (Kd.C_below HR0.out HB2.out) (by omega)
              have r0 := rr0 k hp
              clear rr0
              obtain ⟨x0, hx0⟩ : ∃ x, x = l0.getD k 0 := ⟨_, rfl⟩
              rw [← hx0] at r0
              clear hx0
              obtain ⟨kk, hkk, e4⟩ := port_of x0
              go_wp2_with (fail)
              go_meet
              exact ⟨rfl, kk, hkk, congrArg (Value.int .i64) e4⟩
            · go_wp2_with (fail)
              go_meet
              exact ⟨rfl, 0, by omega, rfl⟩
          case rest =>
            obtain ⟨rfl, kk, hkk, rfl⟩ := hcut
            have hkki : (kk : Int) < 4 := by omega
            obtain ⟨p, who, g, hpl, hps⟩ := HPL2.out.2.2 kk hkk
            have hcp := ptr_at HP2.out hkk hpl
            have HPS := Lib.hid hps
            have HPT := Lib.hid (set_get (y := (p, who, true)) hps)
            clear hps
            go_upto_region 21 with (fail)
            rw [e1]
            clear r1 e1
            go_upto_region 23 with (first
              | (go_at_call 7; ((have hm := HS2.out.grant kk HPS.out); (with_reducible refine hm.mono ?_); clear hm; rintro e w5 ⟨rfl, hD⟩; (have hP2 := row_kept hD.fr HP2.out (ne_cel HS2.out HP2.out (by decide)) (by decide)); (have hW2 := row_kept hD.fr HW.out.1 HW.out.2 (by decide)); (have hS2 := hD.sys); replace HB2 := Lib.hid (HB2.out.trans hD.bel); clear HS2 HP2; (have HS2 := Lib.hid hS2); (have HP2 := Lib.hid hP2); replace HW := Lib.hid (And.intro hW2 HW.out.2); clear hD hP2 hW2 hS2; clear hcp; (have hcp := ptr_at HP2.out hkk hpl))))
            rw [E5.out]
            go_cut [87] (fun v87 wx => wx = w5 ∧ ∃ b : Bool, v87 = .bool b)
            case first =>
              by_cases hp : k < l2.length
              · obtain ⟨ad2, hA2, r2⟩ := Kd.at_bool (Kd.C_below HR2.out HB2.out) (k : Int) (by omega) (by omega)
                subst hA2
                rw [Int.toNat_natCast] at r2
                obtain ⟨b, hb⟩ : ∃ b, b = rdOf false l2 (k : Int) := ⟨_, rfl⟩
                go_wp2_with (fail)
                go_meet
                exact ⟨rfl, _, rfl⟩
              · go_wp2_with (fail)
                go_meet
                exact ⟨rfl, false, rfl⟩
            case rest =>
              obtain ⟨rfl, b, rfl⟩ := hcut
              cases b
              · have hbt := HBT.out
                cases hmem : Mk.mem WL at_
                · rw [hmem] at hbt HHA
                  simp only [Bool.not_false] at hbt
                  have hbt2 := eq_of_beq hbt
                  clear hmem
                  go_wp2_with (first
                    | (go_at_call 10; ((have hm := HS2.out.or_ kk (q : Int) bt HPT.out (by have := HF.out.2; omega)); rw [(acc_yes (who := who) (kind := 5) (put := bt) HQL.out).1, ← HSN.out] at hm; rw [E2.out]; (with_reducible refine hm.mono ?_); clear hm; rintro e w6 ⟨rfl, hD⟩; (have hP2 := row_kept hD.fr HP2.out (ne_cel HS2.out HP2.out (by decide)) (by decide)); (have hW2 := row_kept hD.fr HW.out.1 HW.out.2 (by decide)); (have hS2 := hD.sys); replace HB2 := Lib.hid (HB2.out.trans hD.bel); clear HS2 HP2; (have HS2 := Lib.hid hS2); (have HP2 := Lib.hid hP2); replace HW := Lib.hid (And.intro hW2 HW.out.2); clear hD hP2 hW2 hS2; clear hcp; (have hcp := ptr_at HP2.out hkk hpl)))
                    | (go_at_call 11; ((have hm := mask_Has.calls AW cW WL at_ _ _ (C_sl HW.out.1) HcW.out HHA.out); (with_reducible refine hm.mono ?_); clear hm; rintro e w7 ⟨rfl, hd⟩; (have hb := hd.below); clear hd; replace HS2 := Lib.hid (HS2.out.below hb); replace HB2 := Lib.hid (HB2.out.trans (hb.mono HB2.out.size)); replace HP2 := Lib.hid (own_bel HP2.out hb); replace HW := Lib.hid (And.intro (own_bel HW.out.1 hb) HW.out.2); clear hb))
                    | (go_at_call 12; ((have hm := mask_With.calls AW cW WL at_ outO 0 _ (C_sl HW.out.1) HcW.out HWO.out); (with_reducible refine hm.mono ?_); clear hm; rintro e w7 ⟨v7, rfl, hR, hb⟩; (have hrn := row_new hR HB2.out.size HS2.out.lt.2); replace HS2 := Lib.hid (HS2.out.below hb); replace HB2 := Lib.hid (HB2.out.trans (hb.mono HB2.out.size)); replace HP2 := Lib.hid (own_bel HP2.out hb); replace HW := Lib.hid (And.intro (own_bel HW.out.1 hb) HW.out.2); clear hb hR; (have HW7 := Lib.hid hrn); clear hrn)))
                  go_roundw
                  case rel =>
                    have ha := acc_yes (who := who) (kind := 5) (put := bt) HQL.out
                    refine ⟨k + 1, (s.acc true who 5 (q : Int) 0 bt).1, _, outO, by omega, by omega, by go_num, rfl, rfl, HS2, Lib.hid ((HPL2.out.set HPS.out true).set HPT.out false), HB2, Lib.hid (by rw [ha.2.1]; exact HIO.out), Lib.hid ⟨ha.2.2.1.trans HF.out.1, by have := ha.2.2.2; have := HF.out.2; omega⟩, HP2, HW7⟩
                  case measure => simp [intOf]; omega
                · rw [hmem] at hbt HHA
                  simp only [Bool.not_true] at hbt
                  have hbt2 := ne_of_beq_false hbt
                  clear hmem
                  go_wp2_with (first
                    | (go_at_call 10; ((have hm := HS2.out.or_ kk (q : Int) bt HPT.out (by have := HF.out.2; omega)); rw [(acc_yes (who := who) (kind := 5) (put := bt) HQL.out).1, ← HSN.out] at hm; rw [E2.out]; (with_reducible refine hm.mono ?_); clear hm; rintro e w6 ⟨rfl, hD⟩; (have hP2 := row_kept hD.fr HP2.out (ne_cel HS2.out HP2.out (by decide)) (by decide)); (have hW2 := row_kept hD.fr HW.out.1 HW.out.2 (by decide)); (have hS2 := hD.sys); replace HB2 := Lib.hid (HB2.out.trans hD.bel); clear HS2 HP2; (have HS2 := Lib.hid hS2); (have HP2 := Lib.hid hP2); replace HW := Lib.hid (And.intro hW2 HW.out.2); clear hD hP2 hW2 hS2; clear hcp; (have hcp := ptr_at HP2.out hkk hpl)))
                    | (go_at_call 11; ((have hm := mask_Has.calls AW cW WL at_ _ _ (C_sl HW.out.1) HcW.out HHA.out); (with_reducible refine hm.mono ?_); clear hm; rintro e w7 ⟨rfl, hd⟩; (have hb := hd.below); clear hd; replace HS2 := Lib.hid (HS2.out.below hb); replace HB2 := Lib.hid (HB2.out.trans (hb.mono HB2.out.size)); replace HP2 := Lib.hid (own_bel HP2.out hb); replace HW := Lib.hid (And.intro (own_bel HW.out.1 hb) HW.out.2); clear hb))
                    | (go_at_call 12; ((have hm := mask_With.calls AW cW WL at_ outO 0 _ (C_sl HW.out.1) HcW.out HWO.out); (with_reducible refine hm.mono ?_); clear hm; rintro e w7 ⟨v7, rfl, hR, hb⟩; (have hrn := row_new hR HB2.out.size HS2.out.lt.2); replace HS2 := Lib.hid (HS2.out.below hb); replace HB2 := Lib.hid (HB2.out.trans (hb.mono HB2.out.size)); replace HP2 := Lib.hid (own_bel HP2.out hb); replace HW := Lib.hid (And.intro (own_bel HW.out.1 hb) HW.out.2); clear hb hR; (have HW7 := Lib.hid hrn); clear hrn)))
                  go_roundw
                  case rel =>
                    have ha := acc_yes (who := who) (kind := 5) (put := bt) HQL.out
                    refine ⟨k + 1, (s.acc true who 5 (q : Int) 0 bt).1, _, outO, by omega, by omega, by go_num, rfl, rfl, HS2, Lib.hid ((HPL2.out.set HPS.out true).set HPT.out false), HB2, Lib.hid (by rw [ha.2.1]; exact HIO.out), Lib.hid ⟨ha.2.2.1.trans HF.out.1, by have := ha.2.2.2; have := HF.out.2; omega⟩, HP2, HW7⟩
                  case measure => simp [intOf]; omega
              · go_wp2_with (first
                  | (go_at_call 8; ((have hm := HS2.out.and_ kk (q : Int) (Go.bits .xor .u64 IntKind.u64.max bt) HPT.out (by have := HF.out.2; omega)); rw [E2.out, if_neg (show ¬ (IntKind.u64.signed = true) by decide)]; (with_reducible refine hm.mono ?_); clear hm; rintro e w6 ⟨rfl, hD⟩; (have hP2 := row_kept hD.fr HP2.out (ne_cel HS2.out HP2.out (by decide)) (by decide)); (have hW2 := row_kept hD.fr HW.out.1 HW.out.2 (by decide)); (have hS2 := hD.sys); replace HB2 := Lib.hid (HB2.out.trans hD.bel); clear HS2 HP2; (have HS2 := Lib.hid hS2); (have HP2 := Lib.hid hP2); replace HW := Lib.hid (And.intro hW2 HW.out.2); clear hD hP2 hW2 hS2; clear hcp; (have hcp := ptr_at HP2.out hkk hpl)))
                  | (go_at_call 9; ((have hm := mask_Without.calls kA AW cW WL at_ outA 0 _ (C_sl HW.out.1) HcW.out HWA.out); (with_reducible refine hm.mono ?_); clear hm; rintro e w7 ⟨v7, rfl, hR, hb⟩; (have hrn := row_new hR HB2.out.size HS2.out.lt.2); replace HS2 := Lib.hid (HS2.out.below hb); replace HB2 := Lib.hid (HB2.out.trans (hb.mono HB2.out.size)); replace HP2 := Lib.hid (own_bel HP2.out hb); replace HW := Lib.hid (And.intro (own_bel HW.out.1 hb) HW.out.2); clear hb hR; (have HW7 := Lib.hid hrn); clear hrn)))
                go_roundw
                case rel =>
                  have ha := acc_yes (who := who) (kind := 6) (put := (Go.bits .xor .u64 IntKind.u64.max bt)) HQL.out
                  refine ⟨k + 1, (s.acc true who 6 (q : Int) 0 (Go.bits .xor .u64 IntKind.u64.max bt)).1, _, outA, by omega, by omega, by go_num, rfl, rfl, HS2, Lib.hid ((HPL2.out.set HPS.out true).set HPT.out false), HB2, Lib.hid (by rw [ha.2.1]; exact HIA.out), Lib.hid ⟨ha.2.2.1.trans HF.out.1, by have := ha.2.2.2; have := HF.out.2; omega⟩, HP2, HW7⟩
                case measure => simp [intOf]; omega
        · have hw2 : (l1.length ≤ k) ∨ (k < l1.length ∧ 300 ≤ k) := by omega
          clear hend
          obtain ⟨kS, hSA⟩ := HI.out.same
          obtain ⟨k1, k2, nC, hC1, hC2⟩ := HI.out.count
          have H8 := Lib.hid HI.out.c8
          have HSA := Lib.hid hSA
          have HC1 := Lib.hid hC1
          have HC2 := Lib.hid hC2
          clear hSA hC1 hC2
          rcases hw2 with hw2 | ⟨hw2, hw3⟩
          all_goals
            go_wp2_with (first
              | (go_at_call 13; ((have hm := HS2.out.image); (with_reducible refine hm.mono ?_); clear hm; rintro e w6 ⟨v6, rfl, hown, hF⟩; (obtain ⟨AI, cI, rfl, hcI, hCI⟩ := C_own hown); (have hb := frBel hF); (have HCI := Lib.hid hCI); (have HcI := Lib.hid hcI); replace HS2 := Lib.hid (HS2.out.below hb); replace HB2 := Lib.hid (HB2.out.trans (hb.mono HB2.out.size)); replace HP2 := Lib.hid (own_bel HP2.out hb); replace HW := Lib.hid (And.intro (own_bel HW.out.1 hb) HW.out.2); rw [H8.out]; clear hb hown hF hcI hCI))
              | (go_at_call 14; ((have hm := mask_Same.calls kS AI cI s.cells AW cW WL true _ HCI.out HcI.out (C_sl HW.out.1) HcW.out (Aside0.mk (HL.out.below HB2.out)) HSA.out); rw [H8.out] at hm; (with_reducible refine hm.mono ?_); clear hm; rintro e w7 ⟨rfl, hb⟩; replace HS2 := Lib.hid (HS2.out.below hb); replace HB2 := Lib.hid (HB2.out.trans (hb.mono HB2.out.size)); replace HP2 := Lib.hid (own_bel HP2.out hb); replace HW := Lib.hid (And.intro (own_bel HW.out.1 hb) HW.out.2); replace HCI := Lib.hid (Kd.C_below HCI.out hb); clear hb))
              | (go_at_call 15; ((have hm := mask_Count.calls k1 AI cI s.cells nC _ HCI.out HcI.out HC1.out); rw [H8.out] at hm; (with_reducible refine hm.mono ?_); clear hm; rintro e w8 ⟨rfl, hd⟩; (have hb := hd.below); replace HS2 := Lib.hid (HS2.out.below hb); replace HB2 := Lib.hid (HB2.out.trans (hb.mono HB2.out.size)); replace HP2 := Lib.hid (own_bel HP2.out hb); replace HW := Lib.hid (And.intro (own_bel HW.out.1 hb) HW.out.2); replace HCI := Lib.hid (Kd.C_below HCI.out hb); clear hb hd))
              | (go_at_call 15; ((have hm := mask_Count.calls k2 AW cW WL nC _ (C_sl HW.out.1) HcW.out HC2.out); (with_reducible refine hm.mono ?_); clear hm; rintro e w9 ⟨rfl, hd⟩; (have hb := hd.below); replace HS2 := Lib.hid (HS2.out.below hb); replace HB2 := Lib.hid (HB2.out.trans (hb.mono HB2.out.size)); replace HP2 := Lib.hid (own_bel HP2.out hb); replace HW := Lib.hid (And.intro (own_bel HW.out.1 hb) HW.out.2); replace HCI := Lib.hid (Kd.C_below HCI.out hb); clear hb hd))
              | (go_at_call 16; ((have hm := HS2.out.faults); rw [HF.out.1] at hm; (with_reducible refine hm.mono ?_); clear hm; rintro e w10 ⟨rfl, rfl⟩))
              | (go_at_call 17; ((have hm := HS2.out.cells); rw [H8.out, show ((8 : Nat) : Int) = 8 from rfl] at hm; (with_reducible refine hm.mono ?_); clear hm; rintro e w11 ⟨rfl, rfl⟩)))
            go_ret
            exact ⟨rfl, HB2.out⟩
end Go.Proofs.YtddkockeeodklaaDoor.Ar

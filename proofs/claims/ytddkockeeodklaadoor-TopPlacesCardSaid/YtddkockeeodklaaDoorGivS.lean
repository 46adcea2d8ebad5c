/- Starts: the words at which a page's cells begin; a loop over a function that goes through them. -/
import Derived.Test.YtddkockeeodklaaDoorGivA
import Derived.RangeFuncFrom
import Derived.RangeFuncBound
import Derived.RangeFuncCalls
import Derived.RangeFuncLeaves
import Derived.RangeFuncBox
import Derived.Shelf.Abstract
import Derived.OwnWalkIn
import Derived.TacticsInMore
import Derived.LoopNIn
import Derived.LoopIn
import Derived.Lib.Hide
import Derived.Shelf.RegionOpen
namespace Go.Proofs.YtddkockeeodklaaDoor.PAll
open Go.RowKit Go.Shelf Go.Proofs.YtddkockeeodklaaDoorW.PrintWords Go.Proofs.YtddkockeeodklaaDoorW.PrintLast Go.Proofs.YtddkockeeodklaaDoorW.PrintMore
set_option linter.unusedVariables false
set_option linter.unusedSimpArgs false
attribute [local go_sem] Oper.semAt_some

/-- What has come when k rounds are over. -/
def upto {α : Type} (f : Nat → α) (k : Nat) : List α := (List.range k).map f
theorem upto_succ {α : Type} (f : Nat → α) (k : Nat) : upto f (k + 1) = upto f k ++ [f k] := by simp [upto, List.range_succ]
theorem upto_length {α : Type} (f : Nat → α) (k : Nat) : (upto f k).length = k := by simp [upto]

/-- The k-th of them, for cells of t words. -/
def begAt (t k : Nat) : Fin 64 := Fin.ofNat 64 (k * t)

set_option maxRecDepth 100000 in
set_option maxHeartbeats 4000000 in
theorem starts1_in (l Bs n₀ n c t : Nat) (hn : 1 ≤ n) (hc : c < 8) (ht1 : 2 ≤ t) (ht2 : t ≤ 32) (J Jx : List (Fin 64) → World → Prop)
    (hY : ∀ (pre : List (Fin 64)) (x : Fin 64) (W : World), J pre W → pre.length < 64 → YieldAt Fence.wide (n - 1) Tryd.prog l #[.int .i64 ((x.1 : Nat) : Int)] W fun e W' =>
      (e = .returned (.bool true) ∧ J (pre ++ [x]) W' ∧ Below n₀ W W') ∨ (e = .returned (.bool false) ∧ Jx (pre ++ [x]) W'))
    (W : World) (hBs : W.cell? ⟨Bs, 0, none⟩ = some (.int .i64 c)) (hT : W.cell? ⟨0, c, none⟩ = some (.int .i64 t)) (h0 : J [] W) :
    CallsIn Fence.wide n Tryd.prog 61 #[.func (.yield l) #[] #[], .pointer (some ⟨Bs, 0, none⟩)] W fun e W' => (∃ v, e = .returned v) ∧
      ((∃ ys, ys = upto (begAt t) (64 / t) ∧ J ys W') ∨ (∃ pre, True ∧ Jx pre W')) := by
  refine callsIn_of_wp Tryd.func61 rfl trivial ?_ rfl
  simp only [Tryd.ntmps61, List.size_toArray, List.length_cons, List.length_nil, Nat.reduceAdd, Nat.reduceSub, Array.replicate_succ, Array.replicate_zero, List.push_toArray, List.append_toArray, List.nil_append, List.cons_append]
  gi_wp2
  gi_loopw [4] (fun i wr => ∃ k a : Nat, Hid (a = k * t) ∧ a ≤ 64 ∧ k ≤ 64 ∧ i = .int .i64 a ∧ J (upto (begAt t) k) wr)
    (fun i _ => 64 - (intOf i).toNat)
  case atStart => exact ⟨0, 0, Lib.hid (by simp), by omega, by omega, rfl, h0⟩
  case round =>
    obtain ⟨k, a, HA, ha, hk, rfl, hJs⟩ := hrel
    by_cases hlt : a + t ≤ 64
    · have hk2 : k < 64 := by
        have e := HA.out
        have : k * 2 ≤ k * t := Nat.mul_le_mul_left k ht1
        omega
      have hb : ((begAt t k).1 : Int) = (a : Int) := by
        show (((k * t) % 64 : Nat) : Int) = _
        rw [← HA.out]; omega
      have hs := upto_succ (begAt t) k
      have HA2 : Hid (a + t = (k + 1) * t) := Lib.hid (by rw [HA.out, Nat.add_mul, Nat.one_mul])
      obtain ⟨fn, tmps, assign, body, hy, hR⟩ := hY _ (begAt t k) wr hJs (by rw [upto_length]; exact hk2)
      rw [hb] at hy
      have HS := Lib.hid hs
      clear hs hb
      gi_wp2
      refine hR.mono ?_
      rintro e W3 (⟨rfl, hJ3, hk3⟩ | ⟨rfl, hJx3⟩)
      · gi_wp2
        go_roundw
        case rel => exact ⟨k + 1, a + t, HA2, hlt, by omega, by go_num, by rw [HS.out]; exact hJ3⟩
        case measure => simp [intOf]; omega
      · gi_wp2
        refine bodyPost_ret (results_none rfl _ _ _) rfl ?_
        exact ⟨⟨_, rfl⟩, .inr ⟨_, trivial, hJx3⟩⟩
    · have hkk : k = 64 / t := by
        have e := HA.out
        have h1 : k * t ≤ 64 := by omega
        have h2 : 64 < (k + 1) * t := by rw [Nat.add_mul, Nat.one_mul]; omega
        have := (Nat.le_div_iff_mul_le (show 0 < t by omega)).mpr h1
        have := (Nat.div_lt_iff_lt_mul (show 0 < t by omega)).mpr h2
        omega
      have HK := Lib.hid hkk
      clear hkk
      gi_wp2
      go_end0
      exact ⟨⟨_, rfl⟩, .inl ⟨_, rfl, by rw [← HK.out]; exact hJs⟩⟩

set_option maxHeartbeats 1000000 in
theorem starts_in (n : Nat) (c : Int) (w : World) :
    CallsIn Fence.wide n Tryd.prog 56 #[.int .i64 c] w fun e w' => e = .returned (.func (.func 61) #[] #[.pointer (some ⟨w.heap.size, 0, none⟩)]) ∧ w' = w.alloc (.cells #[.int .i64 c] 3) := by
  refine callsIn_of_wp Tryd.func56 rfl trivial ?_ rfl
  simp only [Tryd.ntmps56, List.size_toArray, List.length_cons, List.length_nil, Nat.reduceAdd, Nat.reduceSub, Array.replicate_succ, Array.replicate_zero, List.push_toArray, List.append_toArray, List.nil_append, List.cons_append]
  gi_wp2
  go_ret
  exact ⟨rfl, rfl⟩

theorem cell_of_box_l {W : World} {B : Nat} {v : Value} {t : TypeId} (h : W.heap[B]? = some (.cells #[v] t (0, 0))) : W.cell? ⟨B, 0, none⟩ = some v ∧ W.frozen? ⟨B, 0, none⟩ = false := by
  constructor <;> simp [World.cell?, World.frozen?, h]
theorem cell_new_l (W : World) (v : Value) (t : TypeId) : (W.alloc (.cells #[v] t)).cell? ⟨W.heap.size, 0, none⟩ = some v ∧ (W.alloc (.cells #[v] t)).frozen? ⟨W.heap.size, 0, none⟩ = false :=
  cell_of_box_l (World.alloc_heap_new W _)
theorem cell_alloc_l {W : World} {a : Addr} {v : Value} (o : Obj) (h : W.cell? a = some v) : (W.alloc o).cell? a = some v := cell_kept h (World.grownBy_alloc W o none) (fun r e => by cases e)
theorem frozen_alloc_l {W : World} {a : Addr} {v : Value} (o : Obj) (h : W.cell? a = some v) (hf : W.frozen? a = false) : (W.alloc o).frozen? a = false := (frozen_kept h (World.grownBy_alloc W o none) (fun r e => by cases e)).trans hf

theorem starts_stops (n n₀ Bs c t : Nat) (hn : 1 ≤ n) (hc : c < 8) (ht1 : 2 ≤ t) (ht2 : t ≤ 32) (w : World) (hBs : Bs < w.heap.size) (h0 : 0 < w.heap.size)
    (hb : w.cell? ⟨Bs, 0, none⟩ = some (.int .i64 c)) (hT : w.cell? ⟨0, c, none⟩ = some (.int .i64 t)) :
    SeqStopsK Fence.wide n Tryd.prog 61 #[.pointer (some ⟨Bs, 0, none⟩)] (fun x : Fin 64 => #[Value.int .i64 ((x.1 : Nat) : Int)]) (Below n₀) (fun ys => ys = upto (begAt t) (64 / t)) (fun _ => True) 64 w := fun l J Jx W hW _ _ hY h00 =>
  starts1_in l Bs n₀ n c t hn hc ht1 ht2 J Jx hY W ((hW.cell (p := ⟨Bs, 0, none⟩) hBs).trans hb) ((hW.cell (p := ⟨0, c, none⟩) h0).trans hT) h00

def orB (pre : List (Fin 64)) : Int := pre.foldl (fun s x => Go.bits .or .u64 s (IntKind.u64.wrap (2 ^ x.1))) 0
theorem orB_snoc (pre : List (Fin 64)) (x : Fin 64) : orB (pre ++ [x]) = Go.bits .or .u64 (orB pre) (IntKind.u64.wrap (2 ^ x.1)) := by simp [orB]

def stw (t : Nat) : Int := orB (upto (begAt t) (64 / t))

set_option maxRecDepth 100000 in
set_option maxHeartbeats 4000000 in
theorem Starts_yes (n c t : Nat) (hn : 3 ≤ n) (hc : c < 8) (ht1 : 2 ≤ t) (ht2 : t ≤ 32) (w : World) (h0 : 0 < w.heap.size) (hT : w.cell? ⟨0, c, none⟩ = some (.int .i64 t)) :
    CallsIn Fence.wide n Tryd.prog 46 #[.int .i64 c] w fun e W' => e = .returned (.tuple #[.int .u64 (stw t), .int .i64 0]) ∧ Below w.heap.size w W' := by
  have h1 : 1 ≤ n := by omega
  have hk := known_yes (a0 := (c : Int)) ⟨by omega, by omega⟩
  have A0 := Aside0.mk hk
  clear hk
  refine callsIn_of_wp_marks Tryd.func46 rfl trivial ?_ rfl
  simp only [Tryd.ntmps46, List.size_toArray, List.length_cons, List.length_nil, Nat.reduceAdd, Nat.reduceSub, Array.replicate_succ, Array.replicate_zero, List.push_toArray, List.append_toArray, List.nil_append, List.cons_append]
  gi_wp2_with (first | (refine ⟨trivial, ?_⟩; gi_at_call 45; refine (callsIn_wide.2 (sizes_known.same _ true _ A0.out)).mono ?_; rintro e w' ⟨rfl, hw⟩; obtain rfl := hw.symm) | (refine ⟨trivial, ?_⟩; gi_at_call 56; refine (starts_in (n - 1) _ _).mono ?_; rintro e w' ⟨rfl, rfl⟩))
  have hs := cell_new_l w (.int .u64 0) 33
  have hb := cell_new_l (w.alloc (.cells #[.int .u64 0] 33)) (.int .i64 c) 3
  rw [World.size_alloc] at hb
  have hB0 : Below w.heap.size w ((w.alloc (.cells #[.int .u64 0] 33)).alloc (.cells #[.int .i64 c] 3)) := ((Below.refl _ w).alloc (Nat.le_refl _) _).alloc (by simp) _
  refine wpIn_rangeFunc_ownF rfl h1 (gf := 61) (lb := #[.pointer (some ⟨w.heap.size + 1, 0, none⟩)]) rfl trivial (enters_of Tryd.func61 (by kernel_rfl) rfl)
    (starts_stops (n - 1) w.heap.size (w.heap.size + 1) c t (by omega) hc ht1 ht2 _ (by simp) (by simp) hb.1 ((hB0.cell (p := ⟨0, c, none⟩) h0).trans hT)) belowK_t (belowK_b (by simp; omega)) (Below.refl _ _) (fun _ => rfl)
    (fun pre W => (W.cell? ⟨w.heap.size, 0, none⟩ = some (.int .u64 (orB pre)) ∧ W.frozen? ⟨w.heap.size, 0, none⟩ = false) ∧ Below w.heap.size w W)
    (fun _ _ _ => False)
    (OwnFrom.and (Own.from (fun s A B row hs hg hr => ⟨cell_kept hs.1 hg hr, (frozen_kept hs.1 hg hr).trans hs.2⟩) _) (ownFrom_below (Nat.le_refl _) (by simp; omega)))
    (fun _ _ _ _ _ hs _ _ => hs)
    ⟨⟨cell_alloc_l _ hs.1, frozen_alloc_l _ hs.1 hs.2⟩, hB0⟩
    (fun x => { tmps := #[.int .i64 c, undef, .int .u64 0, .int .i64 0, .pointer (some ⟨w.heap.size, 0, none⟩), .int .i64 ((x.1 : Nat) : Int), .int .i64 c, .bool true, .bool false, .int .i64 c, .func (.func 61) #[] #[.pointer (some ⟨w.heap.size + 1, 0, none⟩)], .int .i64 ((x.1 : Nat) : Int), undef, undef, undef, undef, undef], defers := [] }) ?assign ?body ?done ?stop
  case assign =>
    intro l x W K hK
    gi_wp2
    exact hK
  case body =>
    rintro l pre x W ⟨⟨hc, hf⟩, hB⟩ _
    have hx := x.2
    obtain ⟨xv, exv⟩ : ∃ v : Nat, v = x.1 := ⟨_, rfl⟩
    have EX := Aside0.mk (orB_snoc pre x)
    rw [← exv] at hx EX ⊢
    clear exv
    have hmx : Tryd.prog.follows .mixedOrders = true := by kernel_rfl
    gi_wp2
    gi_region_with_o (fail)
    all_goals gi_wp2
    all_goals (try go_bits)
    all_goals exact ⟨(KeepsOthers.setCell _ _ _).trans (KeepsOthers.drew _), ((Below.refl w.heap.size W).setCell (p := ⟨w.heap.size, 0, none⟩) (Nat.le_refl _) _).drew, ⟨by rw [EX.out]; exact World.cell?_setCell_same' _ _ _ (by rw [hc]; rfl), by rw [frozen_drew_own, World.frozen?_setCell]; exact hf⟩, (hB.setCell (p := ⟨w.heap.size, 0, none⟩) (Nat.le_refl _) _).drew⟩
  case done =>
    rintro D ys W hD rfl ⟨⟨hc, _⟩, hB⟩ hK
    gi_wp2
    refine ⟨by simp, .inl ⟨_, _, rfl, run_takeDeferred hK, ?_⟩⟩
    exact ⟨_, results_tmp2 rfl _ _ _, rfl, hB.trans (belowK_b (w := w) (Nat.le_refl _) W D _ _ (by simp at hD; omega) hK rfl rfl)⟩
  case stop =>
    rintro D c pre W _ _ h _
    exact h.elim

/-- The words of the cells' beginnings, class by class. -/
def startT : List Int := [6148914691236517205, 1317624576693539401, 1229782938247303441, 18300341342965825, 72340172838076673, 281543712968705, 281479271743489, 4294967297]

theorem stw_all : ∀ k : Fin 8, stw (sizeT.getD k.1 0).toNat = startT.getD k.1 0 := by decide +kernel

def sizes_Starts.f (a0 : Int) : Option (Int × Int) := some (if 0 ≤ a0 ∧ a0 < 8 then (startT.getD a0.toNat 0, 0) else (0, 1))
set_option maxHeartbeats 8000000 in
set_option maxRecDepth 100000 in
theorem sizes_Starts.calls (a0 : Int) (r1 : Int) (r2 : Int) (w : World) (HL_ : Aside0 (LAID w)) (h : sizes_Starts.f a0 = some (r1, r2)) :
    Calls Tryd.prog 46 #[.int .i64 a0] w fun e w' => e = .returned (.tuple #[.int .u64 r1, .int .i64 r2]) ∧ Below w.heap.size w w' := by
  unfold sizes_Starts.f at h
  by_cases hk : 0 ≤ a0 ∧ a0 < 8
  · rw [if_pos hk] at h
    obtain ⟨rfl, rfl⟩ := Prod.mk.inj (Option.some.inj h)
    obtain ⟨n, rfl⟩ := Int.eq_ofNat_of_zero_le hk.1
    have hn : n < 8 := by omega
    have hl := HL_.out.2 n hn
    obtain ⟨s1, s2⟩ := sz_bd n hn
    have e := stw_all ⟨n, hn⟩
    have hT : w.cell? ⟨0, n, none⟩ = some (.int .i64 (((sizeT.getD n 0).toNat : Nat) : Int)) := by
      rw [hl, show (((sizeT.getD n 0).toNat : Nat) : Int) = sizeT.getD n 0 by omega]
    have h := callsIn_wide.1 (Starts_yes 3 n (sizeT.getD n 0).toNat (by omega) hn (by omega) (by omega) w (World.block_lt_of_cell? w _ hT) hT)
    rw [Int.toNat_natCast, ← e]
    exact h
  · rw [if_neg hk] at h
    obtain ⟨rfl, rfl⟩ := Prod.mk.inj (Option.some.inj h)
    clear h HL_
    have A0 := Aside0.mk (known_no hk)
    clear hk
    go_enter Tryd.func46, Tryd.ntmps46
    go_wp2_with (first | (go_at_call 45; refine (sizes_known.same _ false _ A0.out).mono ?_; rintro e w' ⟨rfl, hw⟩; obtain rfl := hw.symm))
    go_ret2
    exact ⟨rfl, Below.refl _ _⟩
end Go.Proofs.YtddkockeeodklaaDoor.PAll

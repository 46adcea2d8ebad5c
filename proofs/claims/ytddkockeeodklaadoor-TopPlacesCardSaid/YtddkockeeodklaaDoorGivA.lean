/- Contracts given by hand: the tables, and the functions of layer sizes that read its own. -/
import Derived.Test.YtddkockeeodklaaDoorProg
import Derived.Below
import Derived.Deep.Draws
import Derived.Deep.AppendLies
import Derived.Maps.AppendAt
import Derived.OwnWalk
import Derived.Laws.BytesArg
import Derived.Laws.MakeOwn
import Derived.Laws.OwnMore
import Derived.Deep.OwnRows
import Derived.Tactics
import Derived.Lib.ConvBytes
import Derived.Laws.Slices
import Derived.WalkKit
import Derived.KernelRfl
import Derived.RowKit3
import Derived.Deep.LoopGhost
import Derived.Deep.QuietTactic
import Derived.BigQuiet
import Derived.WideLaws
import Derived.Deep.DeepCutAuto
import Derived.Deep.CutBlock
import Derived.Deep.RegionHeld3
import Derived.Laws.Rows
import Derived.Lib.AppendStr
import Derived.ArgAppend
import Derived.Laws.IdiomCopy
import Derived.OrdersHeld
import Derived.Laws.BitsLemmas
import Derived.RowKit
import Derived.Test.YtddkockeeodklaaDoorWWords
import Derived.Test.YtddkockeeodklaaDoorWLast
import Derived.Test.YtddkockeeodklaaDoorWTab
import Derived.Test.YtddkockeeodklaaDoorWFour
import Derived.Test.YtddkockeeodklaaDoorWQPut
import Derived.Test.YtddkockeeodklaaDoorWApart
import Derived.Test.YtddkockeeodklaaDoorWArr
import Derived.Test.YtddkockeeodklaaDoorWZeros
import Derived.Test.YtddkockeeodklaaDoorWFoot
import Derived.Test.YtddkockeeodklaaDoorWKept
import Derived.Test.YtddkockeeodklaaDoorWShare
import Derived.Test.YtddkockeeodklaaDoorWN
import Derived.Test.YtddkockeeodklaaDoorWFootNe
import Derived.Test.YtddkockeeodklaaDoorWAt
import Derived.Test.YtddkockeeodklaaDoorWEqStruct
import Derived.Test.YtddkockeeodklaaDoorWRepsOne
import Derived.Test.YtddkockeeodklaaDoorWInv
import Derived.Test.YtddkockeeodklaaDoorWInvWords
import Derived.Test.YtddkockeeodklaaDoorWGuard
import Derived.Test.YtddkockeeodklaaDoorWNEv
import Derived.Test.YtddkockeeodklaaDoorWMore
import Derived.Test.YtddkockeeodklaaDoorWd
import Derived.Test.YtddkockeeodklaaDoorEo
namespace Go.Proofs.YtddkockeeodklaaDoor.PAll
open Go.RowKit Go.Proofs.YtddkockeeodklaaDoorW.PrintWords Go.Proofs.YtddkockeeodklaaDoorW.PrintLast Go.Proofs.YtddkockeeodklaaDoorW.PrintMore
open Go.Proofs.YtddkockeeodklaaDoor.Eo Go.Proofs.YtddkockeeodklaaDoor.Wd
attribute [local go_sem] max2_int min2_int max_two min_two max_three min_three max_four min_four
set_option linter.unusedVariables false
set_option linter.unusedSimpArgs false

/-- math/bits.deBruijn64tab. -/
def tab : List Int := [0, 1, 56, 2, 57, 49, 28, 3, 61, 58, 42, 50, 38, 29, 17, 4, 62, 47, 59, 36, 45, 43, 51, 22, 53, 39, 33, 30, 24, 18, 12, 5, 63, 55, 48, 27, 60, 41, 37, 16, 46, 35, 44, 21, 52, 32, 23, 11, 54, 26, 40, 15, 34, 20, 31, 10, 25, 14, 19, 9, 13, 8, 7, 6]

/-- windrow/sizes.sizeOf. -/
def sizeT : List Int := [2, 3, 4, 6, 8, 12, 16, 32]

/-- The tables lie where the start lays them. -/
def LAID (w : World) : Prop := (∀ i, i < 64 → w.cell? ⟨1, i, none⟩ = some (.int .u8 (tab.getD i 0))) ∧ ∀ i, i < 8 → w.cell? ⟨0, i, none⟩ = some (.int .i64 (sizeT.getD i 0))

theorem LAID.below {w w' : World} (h : LAID w) (hb : Below w.heap.size w w') : LAID w' := ⟨fun i hi => pw_cell_below hb (h.1 i hi), fun i hi => pw_cell_below hb (h.2 i hi)⟩
theorem LAID.drawn {w w' : World} (h : LAID w) (hd : Drawn0 w w') : LAID w' := h.below hd.below

theorem tab_le (i : Nat) : 0 ≤ tab.getD i 0 ∧ tab.getD i 0 ≤ 63 := by
  by_cases h : i < 64
  · have : ∀ j : Fin 64, 0 ≤ tab.getD j.1 0 ∧ tab.getD j.1 0 ≤ 63 := by decide
    exact this ⟨i, h⟩
  · have e : tab.getD i 0 = 0 := by
      rw [List.getD_eq_getElem?_getD, List.getElem?_eq_none (by show 64 ≤ i; omega)]; rfl
    rw [e]; decide

/-- How many zeros stand below the lowest one; 64: it is 0. -/
def tz (x : Int) : Int := if x = 0 then 64 else tab.getD ((IntKind.u64.wrap (Go.bits .and .u64 x (IntKind.u64.wrap (-x)) * 285870213051353865) / 288230376151711744).toNat) 0

def bits_TrailingZeros64.f (a0 : Int) : Option Int := if 0 ≤ a0 then (if a0 < 18446744073709551616 then some (tz a0) else none) else none

set_option maxHeartbeats 8000000 in
set_option maxRecDepth 100000 in
theorem bits_TrailingZeros64.calls (a0 : Int) (r : Int) (w : World) (HL_ : Aside0 (LAID w)) (h : bits_TrailingZeros64.f a0 = some r) :
    Calls Tryd.prog 57 #[.int .u64 a0] w fun e w' => e = .returned (.int .i64 r) ∧ Drawn0 w w' := by
  have hW : 0 ≤ a0 ∧ a0 < 18446744073709551616 := by
    unfold bits_TrailingZeros64.f at h
    split at h
    · split at h
      · rename_i h1 h2; exact ⟨h1, h2⟩
      · cases h
    · cases h
  obtain rfl : tz a0 = r := by
    unfold bits_TrailingZeros64.f at h
    rw [if_pos hW.1, if_pos hW.2] at h
    exact Option.some.inj h
  clear h
  by_cases h0 : a0 = 0
  · have c0 : (a0 == 0) = true := beq_iff_eq.mpr h0
    have e : tz a0 = 64 := if_pos h0
    rw [e]
    clear h0 hW e
    go_enter Tryd.func57, Tryd.ntmps57
    go_wp2
    go_ret
    exact ⟨rfl, Drawn0.refl _⟩
  · have c0 : (a0 == 0) = false := beq_eq_false_iff_ne.mpr h0
    have e : tz a0 = tab.getD (IntKind.u64.wrap (Go.bits .and .u64 a0 (IntKind.u64.wrap (-a0)) * 285870213051353865) / 288230376151711744).toNat 0 := if_neg h0
    rw [e]
    clear e
    have hw := W_wrap (Go.bits .and .u64 a0 (IntKind.u64.wrap (-a0)) * 285870213051353865)
    have hlt : IntKind.u64.wrap (Go.bits .and .u64 a0 (IntKind.u64.wrap (-a0)) * 285870213051353865) / 288230376151711744 < 64 := by unfold W at hw; omega
    have hge : 0 ≤ IntKind.u64.wrap (Go.bits .and .u64 a0 (IntKind.u64.wrap (-a0)) * 285870213051353865) / 288230376151711744 := by unfold W at hw; omega
    have hl := HL_.out.1 (IntKind.u64.wrap (Go.bits .and .u64 a0 (IntKind.u64.wrap (-a0)) * 285870213051353865) / 288230376151711744).toNat (by omega)
    have ht := tab_le (IntKind.u64.wrap (Go.bits .and .u64 a0 (IntKind.u64.wrap (-a0)) * 285870213051353865) / 288230376151711744).toNat
    clear HL_ hW h0 hw
    obtain ⟨t, et⟩ : ∃ t, t = tab.getD (IntKind.u64.wrap (Go.bits .and .u64 a0 (IntKind.u64.wrap (-a0)) * 285870213051353865) / 288230376151711744).toNat 0 := ⟨_, rfl⟩
    rw [← et] at hl ht ⊢
    clear et
    obtain ⟨t0, t1⟩ := ht
    go_enter Tryd.func57, Tryd.ntmps57
    go_wp2
    go_ret
    exact ⟨rfl, Drawn0.refl _⟩

/-- A class's words. -/
def sz (c : Int) : Int := sizeT.getD c.toNat 0
/-- The least class that has so many. -/
def cls (a : Int) : Int := if a ≤ 2 then 0 else if a ≤ 3 then 1 else if a ≤ 4 then 2 else if a ≤ 6 then 3 else if a ≤ 8 then 4 else if a ≤ 12 then 5 else if a ≤ 16 then 6 else 7

theorem eight {k : Nat} (h : k < 8) : k = 0 ∨ k = 1 ∨ k = 2 ∨ k = 3 ∨ k = 4 ∨ k = 5 ∨ k = 6 ∨ k = 7 := by omega
theorem eightI {k : Int} (h : 0 ≤ k ∧ k < 8) : k = 0 ∨ k = 1 ∨ k = 2 ∨ k = 3 ∨ k = 4 ∨ k = 5 ∨ k = 6 ∨ k = 7 := by omega

theorem sz_bd (k : Nat) (h : k < 8) : 2 ≤ sizeT.getD k 0 ∧ sizeT.getD k 0 ≤ 32 := by
  rcases eight h with rfl | rfl | rfl | rfl | rfl | rfl | rfl | rfl <;> decide

theorem cls_of {a : Int} {k : Nat} (hk : k < 8) (h1 : a ≤ sizeT.getD k 0) (h2 : ∀ j, j < k → sizeT.getD j 0 < a) : cls a = k := by
  have e : sizeT.getD 0 0 = 2 ∧ sizeT.getD 1 0 = 3 ∧ sizeT.getD 2 0 = 4 ∧ sizeT.getD 3 0 = 6 ∧ sizeT.getD 4 0 = 8 ∧ sizeT.getD 5 0 = 12 ∧ sizeT.getD 6 0 = 16 ∧ sizeT.getD 7 0 = 32 := by decide
  obtain ⟨e0, e1, e2, e3, e4, e5, e6, e7⟩ := e
  have hp := fun (hk : 0 < k) => h2 (k - 1) (by omega)
  clear h2
  unfold cls
  rcases eight hk with rfl | rfl | rfl | rfl | rfl | rfl | rfl | rfl
  · rw [e0] at h1; rw [if_pos h1]; rfl
  all_goals
    have hp' := hp (by omega)
    simp only [Nat.reduceSub, e0, e1, e2, e3, e4, e5, e6, e7] at hp' h1
    (repeat' split) <;> omega

theorem cls_bd (a : Int) : 0 ≤ cls a ∧ cls a < 8 := by unfold cls; (repeat' split) <;> omega

def sizes_known.f (a0 : Int) : Option Bool := some (decide (0 ≤ a0 ∧ a0 < 8))
set_option maxHeartbeats 8000000 in
set_option maxRecDepth 100000 in
theorem sizes_known.same (a0 : Int) (r : Bool) (w : World) (h : sizes_known.f a0 = some r) :
    Calls Tryd.prog 45 #[.int .i64 a0] w fun e w' => e = .returned (.bool r) ∧ w' = w := by
  obtain rfl := Option.some.inj h
  clear h
  by_cases h0 : 0 ≤ a0
  · by_cases h1 : a0 < 8
    · rw [decide_eq_true (p := 0 ≤ a0 ∧ a0 < 8) ⟨h0, h1⟩]
      have b0 : decide (0 ≤ a0) = true := decide_eq_true h0
      have b1 : decide (a0 < 8) = true := decide_eq_true h1
      clear h0 h1
      go_enter Tryd.func45, Tryd.ntmps45
      go_wp2
      go_ret
      exact ⟨rfl, rfl⟩
    · rw [decide_eq_false (p := 0 ≤ a0 ∧ a0 < 8) (fun z => h1 z.2)]
      have b0 : decide (0 ≤ a0) = true := decide_eq_true h0
      have b1 : decide (a0 < 8) = false := decide_eq_false h1
      clear h0 h1
      go_enter Tryd.func45, Tryd.ntmps45
      go_wp2
      go_ret
      exact ⟨rfl, rfl⟩
  · rw [decide_eq_false (p := 0 ≤ a0 ∧ a0 < 8) (fun z => h0 z.1)]
    have b0 : decide (0 ≤ a0) = false := decide_eq_false h0
    clear h0
    go_enter Tryd.func45, Tryd.ntmps45
    go_wp2
    go_ret
    exact ⟨rfl, rfl⟩

theorem sizes_known.calls (a0 : Int) (r : Bool) (w : World) (h : sizes_known.f a0 = some r) :
    Calls Tryd.prog 45 #[.int .i64 a0] w fun e w' => e = .returned (.bool r) ∧ Drawn0 w w' :=
  (sizes_known.same a0 r w h).mono fun e w' ⟨h1, h2⟩ => ⟨h1, h2 ▸ Drawn0.refl _⟩

theorem known_yes {a0 : Int} (h : 0 ≤ a0 ∧ a0 < 8) : sizes_known.f a0 = some true := by unfold sizes_known.f; rw [decide_eq_true h]
theorem known_no {a0 : Int} (h : ¬ (0 ≤ a0 ∧ a0 < 8)) : sizes_known.f a0 = some false := by unfold sizes_known.f; rw [decide_eq_false h]

def sizes_Words.f (a0 : Int) : Option (Int × Int) := some (if 0 ≤ a0 ∧ a0 < 8 then (sz a0, 0) else (0, 1))
set_option maxHeartbeats 8000000 in
set_option maxRecDepth 100000 in
theorem sizes_Words.calls (a0 : Int) (r1 : Int) (r2 : Int) (w : World) (HL_ : Aside0 (LAID w)) (h : sizes_Words.f a0 = some (r1, r2)) :
    Calls Tryd.prog 20 #[.int .i64 a0] w fun e w' => e = .returned (.tuple #[.int .i64 r1, .int .i64 r2]) ∧ Drawn0 w w' := by
  unfold sizes_Words.f at h
  by_cases hk : 0 ≤ a0 ∧ a0 < 8
  · rw [if_pos hk] at h
    obtain ⟨rfl, rfl⟩ := Prod.mk.inj (Option.some.inj h)
    clear h
    have A0 := Aside0.mk (known_yes hk)
    obtain ⟨n, rfl⟩ := Int.eq_ofNat_of_zero_le hk.1
    have hl := HL_.out.2 n (by omega)
    have hs := sz_bd n (by omega)
    show Calls Tryd.prog 20 #[.int .i64 (n : Int)] w fun e w' => e = .returned (.tuple #[.int .i64 (sizeT.getD (n : Int).toNat 0), .int .i64 0]) ∧ Drawn0 w w'
    rw [Int.toNat_natCast]
    clear HL_
    obtain ⟨t, et⟩ : ∃ t, t = sizeT.getD n 0 := ⟨_, rfl⟩
    rw [← et] at hl hs ⊢
    clear et
    have hn : n < 8 := by omega
    clear hk
    go_enter Tryd.func20, Tryd.ntmps20
    go_wp2_with (first | (go_at_call 45; refine (sizes_known.calls _ true _ A0.out).mono ?_; rintro e w' ⟨rfl, ⟨nd, rfl⟩⟩))
    go_ret2
    exact ⟨rfl, by repeat (first | exact Drawn0.refl _ | apply Drawn0.step)⟩
  · rw [if_neg hk] at h
    obtain ⟨rfl, rfl⟩ := Prod.mk.inj (Option.some.inj h)
    clear h HL_
    have A0 := Aside0.mk (known_no hk)
    clear hk
    go_enter Tryd.func20, Tryd.ntmps20
    go_wp2_with (first | (go_at_call 45; refine (sizes_known.calls _ false _ A0.out).mono ?_; rintro e w' ⟨rfl, ⟨nd, rfl⟩⟩))
    go_ret2
    exact ⟨rfl, by repeat (first | exact Drawn0.refl _ | apply Drawn0.step)⟩

def sizes_Cells.f (a0 : Int) : Option (Int × Int) := some (if 0 ≤ a0 ∧ a0 < 8 then (64 / sz a0, 0) else (0, 1))
set_option maxHeartbeats 8000000 in
set_option maxRecDepth 100000 in
theorem sizes_Cells.calls (a0 : Int) (r1 : Int) (r2 : Int) (w : World) (HL_ : Aside0 (LAID w)) (h : sizes_Cells.f a0 = some (r1, r2)) :
    Calls Tryd.prog 21 #[.int .i64 a0] w fun e w' => e = .returned (.tuple #[.int .i64 r1, .int .i64 r2]) ∧ Drawn0 w w' := by
  unfold sizes_Cells.f at h
  by_cases hk : 0 ≤ a0 ∧ a0 < 8
  · rw [if_pos hk] at h
    obtain ⟨rfl, rfl⟩ := Prod.mk.inj (Option.some.inj h)
    clear h
    have A0 := Aside0.mk (known_yes hk)
    obtain ⟨n, rfl⟩ := Int.eq_ofNat_of_zero_le hk.1
    have hl := HL_.out.2 n (by omega)
    have hs := sz_bd n (by omega)
    show Calls Tryd.prog 21 #[.int .i64 (n : Int)] w fun e w' => e = .returned (.tuple #[.int .i64 (64 / sizeT.getD (n : Int).toNat 0), .int .i64 0]) ∧ Drawn0 w w'
    rw [Int.toNat_natCast]
    clear HL_
    obtain ⟨t, et⟩ : ∃ t, t = sizeT.getD n 0 := ⟨_, rfl⟩
    rw [← et] at hl hs ⊢
    clear et
    have hn : n < 8 := by omega
    obtain ⟨s0, s1⟩ := hs
    have hne : ¬ t = 0 := by omega
    have hw : Aside0 (IntKind.i64.wrap (Int.tdiv 64 t) = 64 / t) := ⟨by
      rw [i64_w, Int.tdiv_eq_ediv_of_nonneg (by omega)]
      have h1 : 0 ≤ 64 / t := Int.ediv_nonneg (by omega) (by omega)
      have h2 : 64 / t ≤ 64 := Int.ediv_le_self _ (by omega)
      unfold wrap64; omega⟩
    clear hk
    go_enter Tryd.func21, Tryd.ntmps21
    go_wp2_with (first | (go_at_call 45; refine (sizes_known.calls _ true _ A0.out).mono ?_; rintro e w' ⟨rfl, ⟨nd, rfl⟩⟩))
    go_ret2
    exact ⟨by first | rfl | (rw [← hw.out]; rfl) | (simp [hw.out, i64_w]; done) | (rw [i64_w] at hw; simp [hw.out]; done), by repeat (first | exact Drawn0.refl _ | apply Drawn0.step)⟩
  · rw [if_neg hk] at h
    obtain ⟨rfl, rfl⟩ := Prod.mk.inj (Option.some.inj h)
    clear h HL_
    have A0 := Aside0.mk (known_no hk)
    clear hk
    go_enter Tryd.func21, Tryd.ntmps21
    go_wp2_with (first | (go_at_call 45; refine (sizes_known.calls _ false _ A0.out).mono ?_; rintro e w' ⟨rfl, ⟨nd, rfl⟩⟩))
    go_ret2
    exact ⟨rfl, by repeat (first | exact Drawn0.refl _ | apply Drawn0.step)⟩

def cellOf (c a : Int) : Int := if a - a % sz c + sz c > 64 then -1 else a - a % sz c
def sizes_Cell.f (a0 a1 : Int) : Option Int := some (if 0 ≤ a0 ∧ a0 < 8 then (if 0 ≤ a1 ∧ a1 < 64 then cellOf a0 a1 else -1) else -1)
set_option maxHeartbeats 8000000 in
set_option maxRecDepth 100000 in
theorem sizes_Cell.calls (a0 a1 : Int) (r : Int) (w : World) (HL_ : Aside0 (LAID w)) (h : sizes_Cell.f a0 a1 = some r) :
    Calls Tryd.prog 25 #[.int .i64 a0, .int .i64 a1] w fun e w' => e = .returned (.int .i64 r) ∧ Drawn0 w w' := by
  obtain rfl := Option.some.inj h
  clear h
  by_cases hk : 0 ≤ a0 ∧ a0 < 8
  · rw [if_pos hk]
    have A0 := Aside0.mk (known_yes hk)
    by_cases hn : 0 ≤ a1
    · by_cases hn2 : a1 < 64
      · rw [if_pos ⟨hn, hn2⟩]
        obtain ⟨n, rfl⟩ := Int.eq_ofNat_of_zero_le hk.1
        have hl := HL_.out.2 n (by omega)
        have hs := sz_bd n (by omega)
        unfold cellOf sz
        rw [Int.toNat_natCast]
        clear HL_
        obtain ⟨t, et⟩ : ∃ t, t = sizeT.getD n 0 := ⟨_, rfl⟩
        rw [← et] at hl hs ⊢
        clear et
        have hn8 : n < 8 := by omega
        obtain ⟨s0, s1⟩ := hs
        have m0 : 0 ≤ a1 % t := Int.emod_nonneg _ (by omega)
        have m1 : a1 % t < t := Int.emod_lt_of_pos _ (by omega)
        have m2 : a1 % t ≤ a1 := by
          have q1 := Int.mul_ediv_add_emod a1 t
          have q2 : 0 ≤ t * (a1 / t) := Int.mul_nonneg (by omega) (Int.ediv_nonneg hn (by omega))
          omega
        clear hk
        by_cases hc : a1 - a1 % t + t > 64
        · rw [if_pos hc]
          go_enter Tryd.func25, Tryd.ntmps25
          go_wp2_with (first | (go_at_call 45; refine (sizes_known.calls _ true _ A0.out).mono ?_; rintro e w' ⟨rfl, ⟨nd, rfl⟩⟩))
          go_ret
          exact ⟨rfl, by repeat (first | exact Drawn0.refl _ | apply Drawn0.step)⟩
        · rw [if_neg hc]
          go_enter Tryd.func25, Tryd.ntmps25
          go_wp2_with (first | (go_at_call 45; refine (sizes_known.calls _ true _ A0.out).mono ?_; rintro e w' ⟨rfl, ⟨nd, rfl⟩⟩))
          go_ret
          exact ⟨rfl, by repeat (first | exact Drawn0.refl _ | apply Drawn0.step)⟩
      · rw [if_neg (fun z => hn2 z.2)]
        clear HL_ hk
        go_enter Tryd.func25, Tryd.ntmps25
        go_wp2_with (first | (go_at_call 45; refine (sizes_known.calls _ true _ A0.out).mono ?_; rintro e w' ⟨rfl, ⟨nd, rfl⟩⟩))
        go_ret
        exact ⟨rfl, by repeat (first | exact Drawn0.refl _ | apply Drawn0.step)⟩
    · rw [if_neg (fun z => hn z.1)]
      clear HL_ hk
      go_enter Tryd.func25, Tryd.ntmps25
      go_wp2_with (first | (go_at_call 45; refine (sizes_known.calls _ true _ A0.out).mono ?_; rintro e w' ⟨rfl, ⟨nd, rfl⟩⟩))
      go_ret
      exact ⟨rfl, by repeat (first | exact Drawn0.refl _ | apply Drawn0.step)⟩
  · rw [if_neg hk]
    have A0 := Aside0.mk (known_no hk)
    clear HL_ hk
    go_enter Tryd.func25, Tryd.ntmps25
    go_wp2_with (first | (go_at_call 45; refine (sizes_known.calls _ false _ A0.out).mono ?_; rintro e w' ⟨rfl, ⟨nd, rfl⟩⟩))
    go_ret
    exact ⟨rfl, by repeat (first | exact Drawn0.refl _ | apply Drawn0.step)⟩

end Go.Proofs.YtddkockeeodklaaDoor.PAll

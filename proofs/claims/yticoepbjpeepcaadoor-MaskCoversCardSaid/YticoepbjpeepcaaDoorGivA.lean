/- Contracts given by hand: the table by which math/bits finds the lowest one; a list that is grown; what joins two words. -/
import Derived.Test.YticoepbjpeepcaaDoorProg
import Derived.Below
import Derived.Deep.Draws
import Derived.Deep.AppendLies
import Derived.Maps.AppendAt
import Derived.OwnWalk
import Derived.Laws.BytesArg
import Derived.Laws.MakeOwn
import Derived.Laws.OwnMore
import Derived.Deep.OwnRows
import Derived.Tactics
import Derived.Lib.ConvBytes
import Derived.Laws.Slices
import Derived.WalkKit
import Derived.KernelRfl
import Derived.RowKit3
import Derived.Deep.LoopGhost
import Derived.Deep.QuietTactic
import Derived.BigQuiet
import Derived.WideLaws
import Derived.Deep.DeepCutAuto
import Derived.Deep.CutBlock
import Derived.Deep.RegionHeld3
import Derived.Laws.Rows
import Derived.Lib.AppendStr
import Derived.ArgAppend
import Derived.Laws.IdiomCopy
import Derived.OrdersHeld
import Derived.Laws.BitsLemmas
import Derived.RowKit
import Derived.Test.YticoepbjpeepcaaDoorWWords
import Derived.Test.YticoepbjpeepcaaDoorWLast
import Derived.Test.YticoepbjpeepcaaDoorWTab
import Derived.Test.YticoepbjpeepcaaDoorWFour
import Derived.Test.YticoepbjpeepcaaDoorWQPut
import Derived.Test.YticoepbjpeepcaaDoorWApart
import Derived.Test.YticoepbjpeepcaaDoorWArr
import Derived.Test.YticoepbjpeepcaaDoorWZeros
import Derived.Test.YticoepbjpeepcaaDoorWFoot
import Derived.Test.YticoepbjpeepcaaDoorWKept
import Derived.Test.YticoepbjpeepcaaDoorWShare
import Derived.Test.YticoepbjpeepcaaDoorWN
import Derived.Test.YticoepbjpeepcaaDoorWFootNe
import Derived.Test.YticoepbjpeepcaaDoorWAt
import Derived.Test.YticoepbjpeepcaaDoorWEqStruct
import Derived.Test.YticoepbjpeepcaaDoorWRepsOne
import Derived.Test.YticoepbjpeepcaaDoorWInv
import Derived.Test.YticoepbjpeepcaaDoorWInvWords
import Derived.Test.YticoepbjpeepcaaDoorWGuard
import Derived.Test.YticoepbjpeepcaaDoorWNEv
import Derived.Test.YticoepbjpeepcaaDoorWMore
import Derived.Test.YticoepbjpeepcaaDoorWd
import Derived.Test.YticoepbjpeepcaaDoorEo
namespace Go.Proofs.YticoepbjpeepcaaDoor.PAll
open Go.RowKit Go.Proofs.YticoepbjpeepcaaDoorW.PrintWords Go.Proofs.YticoepbjpeepcaaDoorW.PrintLast Go.Proofs.YticoepbjpeepcaaDoorW.PrintMore
open Go.Proofs.YticoepbjpeepcaaDoor.Eo Go.Proofs.YticoepbjpeepcaaDoor.Wd
attribute [local go_sem] max2_int min2_int max_two min_two max_three min_three max_four min_four
set_option linter.unusedVariables false
set_option linter.unusedSimpArgs false

theorem ginfo34 : (Tryd.prog.info? 34).map (fun i => (i.zero, i.size, i.bytes)) = some (some (.int .u64 0), 1, 8) := by kernel_rfl
theorem ginfo34s : (Tryd.prog.info? 34).map (·.size) = some 1 := by kernel_rfl
def gerrW : Option Int → Value
  | none => .nilIface
  | some c => .iface 0 (.int .i64 c)
theorem gerrW_none : gerrW none = .nilIface := rfl
theorem gerrW_some (c : Int) : gerrW (some c) = .iface 0 (.int .i64 c) := rfl

/-- math/bits.deBruijn64tab. -/
def tab : List Int := [0, 1, 56, 2, 57, 49, 28, 3, 61, 58, 42, 50, 38, 29, 17, 4, 62, 47, 59, 36, 45, 43, 51, 22, 53, 39, 33, 30, 24, 18, 12, 5, 63, 55, 48, 27, 60, 41, 37, 16, 46, 35, 44, 21, 52, 32, 23, 11, 54, 26, 40, 15, 34, 20, 31, 10, 25, 14, 19, 9, 13, 8, 7, 6]

/-- The table lies where the start lays it. -/
def LAID (w : World) : Prop := ∀ i, i < 64 → w.cell? ⟨0, i, none⟩ = some (.int .u8 (tab.getD i 0))

theorem LAID.below {w w' : World} (h : LAID w) (hb : Below w.heap.size w w') : LAID w' := fun i hi => pw_cell_below hb (h i hi)
theorem LAID.drawn {w w' : World} (h : LAID w) (hd : Drawn0 w w') : LAID w' := h.below hd.below

theorem tab_le (i : Nat) : 0 ≤ tab.getD i 0 ∧ tab.getD i 0 ≤ 63 := by
  by_cases h : i < 64
  · have : ∀ j : Fin 64, 0 ≤ tab.getD j.1 0 ∧ tab.getD j.1 0 ≤ 63 := by decide
    exact this ⟨i, h⟩
  · have e : tab.getD i 0 = 0 := by
      rw [List.getD_eq_getElem?_getD, List.getElem?_eq_none (by show 64 ≤ i; omega)]; rfl
    rw [e]; decide

/-- How many zeros stand below the lowest one; 64: it is 0. -/
def tz (x : Int) : Int := if x = 0 then 64 else tab.getD ((IntKind.u64.wrap (Go.bits .and .u64 x (IntKind.u64.wrap (-x)) * 285870213051353865) / 288230376151711744).toNat) 0

def bits_TrailingZeros64.f (a0 : Int) : Option Int := if 0 ≤ a0 then (if a0 < 18446744073709551616 then some (tz a0) else none) else none

set_option maxHeartbeats 8000000 in
set_option maxRecDepth 100000 in
theorem bits_TrailingZeros64.calls (a0 : Int) (r : Int) (w : World) (HL_ : Aside0 (LAID w)) (h : bits_TrailingZeros64.f a0 = some r) :
    Calls Tryd.prog 50 #[.int .u64 a0] w fun e w' => e = .returned (.int .i64 r) ∧ Drawn0 w w' := by
  have hW : 0 ≤ a0 ∧ a0 < 18446744073709551616 := by
    unfold bits_TrailingZeros64.f at h
    split at h
    · split at h
      · rename_i h1 h2; exact ⟨h1, h2⟩
      · cases h
    · cases h
  obtain rfl : tz a0 = r := by
    unfold bits_TrailingZeros64.f at h
    rw [if_pos hW.1, if_pos hW.2] at h
    exact Option.some.inj h
  clear h
  by_cases h0 : a0 = 0
  · have c0 : (a0 == 0) = true := beq_iff_eq.mpr h0
    have e : tz a0 = 64 := if_pos h0
    rw [e]
    clear h0 hW e
    go_enter Tryd.func50, Tryd.ntmps50
    go_wp2
    go_ret
    exact ⟨rfl, Drawn0.refl _⟩
  · have c0 : (a0 == 0) = false := beq_eq_false_iff_ne.mpr h0
    have e : tz a0 = tab.getD (IntKind.u64.wrap (Go.bits .and .u64 a0 (IntKind.u64.wrap (-a0)) * 285870213051353865) / 288230376151711744).toNat 0 := if_neg h0
    rw [e]
    clear e
    have hw := W_wrap (Go.bits .and .u64 a0 (IntKind.u64.wrap (-a0)) * 285870213051353865)
    have hlt : IntKind.u64.wrap (Go.bits .and .u64 a0 (IntKind.u64.wrap (-a0)) * 285870213051353865) / 288230376151711744 < 64 := by unfold W at hw; omega
    have hge : 0 ≤ IntKind.u64.wrap (Go.bits .and .u64 a0 (IntKind.u64.wrap (-a0)) * 285870213051353865) / 288230376151711744 := by unfold W at hw; omega
    have hl := HL_.out (IntKind.u64.wrap (Go.bits .and .u64 a0 (IntKind.u64.wrap (-a0)) * 285870213051353865) / 288230376151711744).toNat (by omega)
    have ht := tab_le (IntKind.u64.wrap (Go.bits .and .u64 a0 (IntKind.u64.wrap (-a0)) * 285870213051353865) / 288230376151711744).toNat
    clear HL_ hW h0 hw
    obtain ⟨t, et⟩ : ∃ t, t = tab.getD (IntKind.u64.wrap (Go.bits .and .u64 a0 (IntKind.u64.wrap (-a0)) * 285870213051353865) / 288230376151711744).toNat 0 := ⟨_, rfl⟩
    rw [← et] at hl ht ⊢
    clear et
    obtain ⟨t0, t1⟩ := ht
    go_enter Tryd.func50, Tryd.ntmps50
    go_wp2
    go_ret
    exact ⟨rfl, Drawn0.refl _⟩

def mask_Union1.f (a0 a1 : Int) : Option Int := some (Go.bits .or .u64 a0 a1)
set_option maxHeartbeats 8000000 in
set_option maxRecDepth 100000 in
theorem mask_Union1.calls (a0 a1 : Int) (r : Int) (w : World) (h : mask_Union1.f a0 a1 = some r) :
    Calls Tryd.prog 44 #[.int .u64 a0, .int .u64 a1] w fun e w' => e = .returned (.int .u64 r) ∧ Drawn0 w w' := by
  obtain rfl := Option.some.inj h
  clear h
  go_enter Tryd.func44, Tryd.ntmps44
  go_wp2
  go_ret
  exact ⟨rfl, Drawn0.refl _⟩

def mask_Meet1.f (a0 a1 : Int) : Option Int := some (Go.bits .and .u64 a0 a1)
set_option maxHeartbeats 8000000 in
set_option maxRecDepth 100000 in
theorem mask_Meet1.calls (a0 a1 : Int) (r : Int) (w : World) (h : mask_Meet1.f a0 a1 = some r) :
    Calls Tryd.prog 45 #[.int .u64 a0, .int .u64 a1] w fun e w' => e = .returned (.int .u64 r) ∧ Drawn0 w w' := by
  obtain rfl := Option.some.inj h
  clear h
  go_enter Tryd.func45, Tryd.ntmps45
  go_wp2
  go_ret
  exact ⟨rfl, Drawn0.refl _⟩

def mask_Minus1.f (a0 a1 : Int) : Option Int := some (Go.bits .andNot .u64 a0 a1)
set_option maxHeartbeats 8000000 in
set_option maxRecDepth 100000 in
theorem mask_Minus1.calls (a0 a1 : Int) (r : Int) (w : World) (h : mask_Minus1.f a0 a1 = some r) :
    Calls Tryd.prog 46 #[.int .u64 a0, .int .u64 a1] w fun e w' => e = .returned (.int .u64 r) ∧ Drawn0 w w' := by
  obtain rfl := Option.some.inj h
  clear h
  go_enter Tryd.func46, Tryd.ntmps46
  go_wp2
  go_ret
  exact ⟨rfl, Drawn0.refl _⟩

def mask_grown.f (l0 : List Int) (a1 : Int) : Option (List Int) := if (l0.length : Int) ≤ 35184372088832 then (if a1 ≤ 35184372088832 then some (l0 ++ List.replicate ((mx (l0.length : Int) a1).toNat - l0.length) 0) else none) else none
set_option maxHeartbeats 8000000 in
set_option maxRecDepth 100000 in
theorem mask_grown.calls (A0 : Option Addr) (c0 : Nat) (l0 : List Int) (a1 : Int) (r : List Int) (w : World) (hr0 : Kd.C (Kd.int .u64) w A0 l0.length l0) (hc0 : l0.length ≤ c0) (h : mask_grown.f l0 a1 = some r) :
    Calls Tryd.prog 47 #[.slice A0 l0.length c0, .int .i64 a1] w fun e w' => ∃ v0_ : Value, e = .returned (v0_) ∧ Kd.R (Kd.int .u64) 34 w' w.heap.size (fun _ => True) v0_ r ∧ Below w.heap.size w w' := by
  have HR0 := Aside0.mk hr0
  have HC0 := Aside0.mk hc0
  clear hr0 hc0
  have HB := Aside0.mk (Below.refl w.heap.size w)
  obtain ⟨ji3, hji3⟩ : ∃ j_ : Int, (mx (l0.length : Int) a1) = j_ := ⟨_, rfl⟩
  have HL : (l0.length : Int) ≤ 35184372088832 ∧ a1 ≤ 35184372088832 := by
    unfold mask_grown.f at h
    split at h
    · split at h
      · rename_i h1 h2; exact ⟨h1, h2⟩
      · cases h
    · cases h
  unfold mask_grown.f at h
  rw [if_pos HL.1, if_pos HL.2, hji3] at h
  have hji3_ : (if (l0.length : Int) < a1 then a1 else (l0.length : Int)) = ji3 := hji3
  have hlo : (l0.length : Int) ≤ ji3 := by rw [← hji3]; unfold mx; split <;> omega
  have hhi : ji3 ≤ 35184372088832 := by rw [← hji3]; unfold mx; split <;> omega
  obtain ⟨nj, hnj⟩ : ∃ nj : Nat, ji3 = nj := ⟨ji3.toNat, by omega⟩
  have e4 : l0.take (min l0.length nj) ++ (List.replicate nj (0 : Int)).drop (min l0.length nj) = l0 ++ List.replicate (nj - l0.length) 0 := by
    rw [show min l0.length nj = l0.length by omega, List.take_length, List.drop_replicate]
  have hfin : Aside0 (l0.take (min l0.length nj) ++ (List.replicate nj (0 : Int)).drop (min l0.length nj) = r) := by
    refine ⟨e4.trans (Option.some.inj ?_)⟩
    rw [← h, hnj]; rfl
  have hhid : Aside0 (ji3 = nj) := ⟨hnj⟩
  clear h hji3 e4 hnj HL
  have c4b0 := eq_true (show 0 ≤ ji3 by omega)
  have c4b1 : decide (0 ≤ (ji3)) = true := decide_eq_true (by omega)
  have c5b1 : decide ((ji3 : Int).toNat ≤ 35184372088832) = true := decide_eq_true (by omega)
  clear hlo hhi
  obtain ⟨y141, hy141⟩ : ∃ y_ : List Int, y_ = (List.replicate (ji3 : Int).toNat 0) := ⟨_, rfl⟩
  have Ny141 := Aside0.mk hy141
  clear hy141
  go_enter Tryd.func47, Tryd.ntmps47
  go_wp2_with (first | ((with_reducible refine gate_dst (N := 10) rfl ?_); refine Kd.R_make (Kd.int .u64) _ 34 rfl (N := 10) rfl 24 _ _ rfl ji3 rfl rfl Tryd.underlying24 (.int .u64 0) 8 ginfo34 rfl (by decide) (by omega) 0 (ok := fun _ => True) (okp := fun _ => True) rfl (fun _ hk => hk) trivial (of_decide_eq_true (by first | (with_reducible assumption) | assumption)) (Nat.le_trans (Nat.mul_le_mul_right _ (of_decide_eq_true (by first | (with_reducible assumption) | assumption) : ji3.toNat ≤ 35184372088832)) (by omega)) (Below.refl _ _) (Nat.le_refl _) ?_; intro v142 w6 ho7 hb hg_ hnew_; clear hg_ hnew_; (first | rw [← Ny141.out] at ho7 | (simp only [Int.reduceToNat] at ho7; rw [← Ny141.out] at ho7)); have n0_ := Aside0.mk (Kd.R_lower ho7 (below_size (by repeat (first | (with_reducible first | exact HB.out | apply below_alloc | apply pw_below_drewN | apply below_drew1) | exact HB.out)))); have n1_ := Aside0.mk (below_step (by repeat (first | (with_reducible first | exact HB.out | apply below_alloc | apply pw_below_drewN | apply below_drew1) | exact HB.out)) hb); clear HB; have HO143 := n0_; have HB := n1_; clear n0_ n1_; clear hb ho7; obtain ⟨Ao8, co8, eo8⟩ := Kd.R_slice HO143.out; subst eo8) | ((with_reducible refine gate_dst (N := 13) rfl ?_); refine Kd.R_copy (enc := Value.int .u64) (h1 := fun _ => rfl) 0 w.heap.size rfl _ _ 24 24 34 rfl Tryd.underlying24 ginfo34s (.slice Ao8 y141.length co8) y141 l0 A0 l0.length c0 (fun _ => True) rfl rfl HO143.out (Kd.C_below HR0.out HB.out) HB.out (below_size HB.out) ?_; intro w7 ho9 hb9 hg9_; clear hg9_; have n0_ := Aside0.mk ho9; have n1_ := Aside0.mk hb9; clear HB HO143 ho9 hb9; have HO143 := n0_; have HB := n1_; clear n0_ n1_))
  go_ret
  refine ⟨_, rfl, ?_, HB.out⟩
  have hn : y141 = List.replicate nj 0 := by rw [Ny141.out, hhid.out]; rfl
  have h1 := HO143.out
  rw [← hfin.out]
  rw [hn, List.length_replicate] at h1
  rw [hn, List.length_replicate]
  exact h1
end Go.Proofs.YticoepbjpeepcaaDoor.PAll

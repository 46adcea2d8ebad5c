/- The table by which math/bits finds the lowest one, and that function's contract. -/
import Derived.Test.YtahmhhbpdgopjaaDoorProg
import Derived.Test.YtahmhhbpdgopjaaDoorWMore
import Derived.Test.YtahmhhbpdgopjaaDoorWd
import Derived.WalkKit
import Derived.KernelRfl
import Derived.BigQuiet
import Derived.RowKit3
import Derived.Deep.Draws
namespace Go.Proofs.YtahmhhbpdgopjaaDoor.PAll
open Go.RowKit Go.Proofs.YtahmhhbpdgopjaaDoorW.PrintWords Go.Proofs.YtahmhhbpdgopjaaDoorW.PrintLast Go.Proofs.YtahmhhbpdgopjaaDoorW.PrintMore
open Go.Proofs.YtahmhhbpdgopjaaDoor.Eo Go.Proofs.YtahmhhbpdgopjaaDoor.Wd
set_option linter.unusedVariables false
set_option linter.unusedSimpArgs false

/-- math/bits.deBruijn64tab. -/
def tab : List Int := [0, 1, 56, 2, 57, 49, 28, 3, 61, 58, 42, 50, 38, 29, 17, 4, 62, 47, 59, 36, 45, 43, 51, 22, 53, 39, 33, 30, 24, 18, 12, 5, 63, 55, 48, 27, 60, 41, 37, 16, 46, 35, 44, 21, 52, 32, 23, 11, 54, 26, 40, 15, 34, 20, 31, 10, 25, 14, 19, 9, 13, 8, 7, 6]

/-- The table lies where the start lays it. -/
def LAID (w : World) : Prop := ∀ i, i < 64 → w.cell? ⟨0, i, none⟩ = some (.int .u8 (tab.getD i 0))

theorem LAID.below {w w' : World} (h : LAID w) (hb : Below w.heap.size w w') : LAID w' := fun i hi => pw_cell_below hb (h i hi)
theorem LAID.drawn {w w' : World} (h : LAID w) (hd : Drawn0 w w') : LAID w' := h.below hd.below

theorem tab_le (i : Nat) : 0 ≤ tab.getD i 0 ∧ tab.getD i 0 ≤ 63 := by
  by_cases h : i < 64
  · have : ∀ j : Fin 64, 0 ≤ tab.getD j.1 0 ∧ tab.getD j.1 0 ≤ 63 := by decide
    exact this ⟨i, h⟩
  · have e : tab.getD i 0 = 0 := by
      rw [List.getD_eq_getElem?_getD, List.getElem?_eq_none (by show 64 ≤ i; omega)]; rfl
    rw [e]; decide

/-- How many zeros stand below the lowest one; 64: it is 0. -/
def tz (x : Int) : Int := if x = 0 then 64 else tab.getD ((IntKind.u64.wrap (Go.bits .and .u64 x (IntKind.u64.wrap (-x)) * 285870213051353865) / 288230376151711744).toNat) 0

def bits_TrailingZeros64.f (a0 : Int) : Option Int := if 0 ≤ a0 then (if a0 < 18446744073709551616 then some (tz a0) else none) else none

set_option maxHeartbeats 8000000 in
set_option maxRecDepth 100000 in
theorem bits_TrailingZeros64.calls (a0 : Int) (r : Int) (w : World) (HL_ : Aside0 (LAID w)) (h : bits_TrailingZeros64.f a0 = some r) :
    Calls Tryd.prog 44 #[.int .u64 a0] w fun e w' => e = .returned (.int .i64 r) ∧ Drawn0 w w' := by
  have hW : 0 ≤ a0 ∧ a0 < 18446744073709551616 := by
    unfold bits_TrailingZeros64.f at h
    split at h
    · split at h
      · rename_i h1 h2; exact ⟨h1, h2⟩
      · cases h
    · cases h
  obtain rfl : tz a0 = r := by
    unfold bits_TrailingZeros64.f at h
    rw [if_pos hW.1, if_pos hW.2] at h
    exact Option.some.inj h
  clear h
  by_cases h0 : a0 = 0
  · have c0 : (a0 == 0) = true := beq_iff_eq.mpr h0
    have e : tz a0 = 64 := if_pos h0
    rw [e]
    clear h0 hW e
    go_enter Tryd.func44, Tryd.ntmps44
    go_wp2
    go_ret
    exact ⟨rfl, Drawn0.refl _⟩
  · have c0 : (a0 == 0) = false := beq_eq_false_iff_ne.mpr h0
    have e : tz a0 = tab.getD (IntKind.u64.wrap (Go.bits .and .u64 a0 (IntKind.u64.wrap (-a0)) * 285870213051353865) / 288230376151711744).toNat 0 := if_neg h0
    rw [e]
    clear e
    have hw := W_wrap (Go.bits .and .u64 a0 (IntKind.u64.wrap (-a0)) * 285870213051353865)
    have hlt : IntKind.u64.wrap (Go.bits .and .u64 a0 (IntKind.u64.wrap (-a0)) * 285870213051353865) / 288230376151711744 < 64 := by unfold W at hw; omega
    have hge : 0 ≤ IntKind.u64.wrap (Go.bits .and .u64 a0 (IntKind.u64.wrap (-a0)) * 285870213051353865) / 288230376151711744 := by unfold W at hw; omega
    have hl := HL_.out (IntKind.u64.wrap (Go.bits .and .u64 a0 (IntKind.u64.wrap (-a0)) * 285870213051353865) / 288230376151711744).toNat (by omega)
    have ht := tab_le (IntKind.u64.wrap (Go.bits .and .u64 a0 (IntKind.u64.wrap (-a0)) * 285870213051353865) / 288230376151711744).toNat
    clear HL_ hW h0 hw
    obtain ⟨t, et⟩ : ∃ t, t = tab.getD (IntKind.u64.wrap (Go.bits .and .u64 a0 (IntKind.u64.wrap (-a0)) * 285870213051353865) / 288230376151711744).toNat 0 := ⟨_, rfl⟩
    rw [← et] at hl ht ⊢
    clear et
    obtain ⟨t0, t1⟩ := ht
    go_enter Tryd.func44, Tryd.ntmps44
    go_wp2
    go_ret
    exact ⟨rfl, Drawn0.refl _⟩
end Go.Proofs.YtahmhhbpdgopjaaDoor.PAll

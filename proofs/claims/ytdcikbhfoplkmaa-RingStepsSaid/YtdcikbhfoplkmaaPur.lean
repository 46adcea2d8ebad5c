/- One thread's push, and its pop, with their tapes: what they are in memory; a step of each. -/
import Derived.Test.YtdcikbhfoplkmaaStr
import Derived.Test.YtdcikbhfoplkmaaDuo
import Derived.Test.YtdcikbhfoplkmaaPTx6
import Derived.RangeFuncNested
import Derived.RangeFuncFrom
import Derived.RangeFuncBound
import Derived.RangeFuncCalls
import Derived.RangeFuncLeaves
import Derived.RangeFuncBox
import Derived.Shelf.Abstract
import Derived.OwnWalkIn
import Derived.TacticsInMore
import Derived.LoopNIn
import Derived.LoopIn
import Derived.Shelf.RegionOpen
import Derived.Test.YtdcikbhfoplkmaaRk
import Derived.Maps.AppendAt
namespace Go.Proofs.Ytdcikbhfoplkmaa.Dd
open Go Go.RowKit Go.Proofs.Ytdcikbhfoplkmaa.Hp Go.Proofs.Ytdcikbhfoplkmaa.PH Go.Proofs.Ytdcikbhfoplkmaa.Ar Go.Proofs.Ytdcikbhfoplkmaa.Eo
set_option linter.unusedVariables false
set_option linter.unusedSimpArgs false
set_option linter.unusedSectionVars false

def Wd (x : Int) : Prop := 0 ≤ x ∧ x < 18446744073709551616
def fullP (R : Nat) (tl hd : Int) : Prop := IntKind.u64.wrap (R : Int) ≤ IntKind.u64.wrap (tl - hd)
/-- A push, and what its tape was answered. -/
def PTr (P T R t : Nat) (v : Int) (x : PS) (H : List Int) : Prop :=
  ∃ hd tl, (x = ⟨P, T, R, t, v, 0, hd, tl, false⟩ ∧ H = []) ∨ (x = ⟨P, T, R, t, v, 1, hd, tl, false⟩ ∧ H = [tl] ∧ Wd tl) ∨ (x = ⟨P, T, R, t, v, 2, hd, tl, false⟩ ∧ H = [tl, hd] ∧ Wd tl ∧ ¬ fullP R tl hd) ∨
    (∃ u, x = ⟨P, T, R, t, v, 3, hd, tl, false⟩ ∧ H = [tl, hd, u] ∧ Wd tl ∧ ¬ fullP R tl hd) ∨ (x = ⟨P, T, R, t, v, 4, hd, tl, true⟩ ∧ H = [tl, hd] ∧ fullP R tl hd) ∨ (∃ u u2, x = ⟨P, T, R, t, v, 4, hd, tl, false⟩ ∧ H = [tl, hd, u, u2] ∧ Wd tl ∧ ¬ fullP R tl hd)
def OTr (P T R t : Nat) (x : OS) (H : List Int) : Prop :=
  ∃ hd tl v, (x = ⟨P, T, R, t, 0, hd, tl, v, false⟩ ∧ H = []) ∨ (x = ⟨P, T, R, t, 1, hd, tl, v, false⟩ ∧ H = [hd] ∧ Wd hd) ∨ (x = ⟨P, T, R, t, 2, hd, tl, v, false⟩ ∧ H = [hd, tl] ∧ Wd hd ∧ hd ≠ tl) ∨
    (x = ⟨P, T, R, t, 3, hd, tl, v, false⟩ ∧ H = [hd, tl, v] ∧ Wd hd ∧ hd ≠ tl) ∨ (x = ⟨P, T, R, t, 4, hd, tl, v, true⟩ ∧ H = [hd, tl] ∧ hd = tl) ∨ (∃ u, x = ⟨P, T, R, t, 4, hd, tl, v, false⟩ ∧ H = [hd, tl, v, u] ∧ Wd hd ∧ hd ≠ tl)
theorem PTr.len {P T R t : Nat} {v : Int} {x : PS} {H : List Int} (h : PTr P T R t v x H) : H.length ≤ 4 := by
  obtain ⟨hd, tl, ⟨_, rfl⟩ | ⟨_, rfl, _⟩ | ⟨_, rfl, _⟩ | ⟨u, _, rfl, _⟩ | ⟨_, rfl, _⟩ | ⟨u, u2, _, rfl, _⟩⟩ := h <;> simp
theorem OTr.len {P T R t : Nat} {x : OS} {H : List Int} (h : OTr P T R t x H) : H.length ≤ 4 := by
  obtain ⟨hd, tl, v, ⟨_, rfl⟩ | ⟨_, rfl, _⟩ | ⟨_, rfl, _⟩ | ⟨_, rfl, _⟩ | ⟨_, rfl, _⟩ | ⟨u, _, rfl, _⟩⟩ := h <;> simp
def stepC (kind : Int) (q : Nat) (put : Int) (s : AS) (x x' : PS) : Prop := ∀ {B am cc : Nat} {t2 : AS} {qs : List (Nat × Int × Bool)} {w : World} {a c p m : Nat}, SysD am cc t2 qs B w a c s [(p, 9, true)] → IsPush w m x → B ≤ m → s.log.length ≤ 1000000 →
  Calls Try.prog 24 #[.pointer (some ⟨m, 0, none⟩), .pointer (some ⟨p, 0, none⟩)] w fun e w' => e = .returned (.bool (x'.at_ == 4)) ∧ IsPush w' m x' ∧ SysD am cc t2 qs B w' a c (s.acc true 9 kind q 0 put).1 [(p, 9, false)] ∧ Below B w w' ∧ Fr (fun k => k = m ∨ TouchD c cc w k) w w'
def stepO (kind : Int) (q : Nat) (put : Int) (s : AS) (x x' : OS) : Prop := ∀ {B am cc : Nat} {t2 : AS} {qs : List (Nat × Int × Bool)} {w : World} {a c p m : Nat}, SysD am cc t2 qs B w a c s [(p, 9, true)] → IsPop w m x → B ≤ m → s.log.length ≤ 1000000 →
  Calls Try.prog 26 #[.pointer (some ⟨m, 0, none⟩), .pointer (some ⟨p, 0, none⟩)] w fun e w' => e = .returned (.bool (x'.at_ == 4)) ∧ IsPop w' m x' ∧ SysD am cc t2 qs B w' a c (s.acc true 9 kind q 0 put).1 [(p, 9, false)] ∧ Below B w w' ∧ Fr (fun k => k = m ∨ TouchD c cc w k) w w'
section
variable {P T R t : Nat} (hr : Lay.right P T R) (ht : t < T)
include hr ht
theorem r_lt {j : Nat} (hj : j < 5 + R) : 16 + t * (5 + R) + j < Lay.cl P T R := by
  have h1 : 16 + t * (5 + R) + j < Lay.tb T R := by
    unfold Lay.tb
    have := Nat.mul_le_mul_right (5 + R) (show t + 1 ≤ T from ht)
    rw [Nat.add_mul] at this
    omega
  have hb := Lay.bs_ge P T R
  have hc : Lay.cl P T R = Lay.bs P T R + 64 * P := rfl
  omega
theorem r_tail : layout_Plan_Tail.f P T R t = some ((16 + t * (5 + R) + 4 : Nat) : Int) := by
  rw [Lay.p_tail hr, if_pos (by omega)]
  congr 1
theorem r_head : layout_Plan_Head.f P T R t = some ((16 + t * (5 + R) + 3 : Nat) : Int) := by
  rw [Lay.p_head hr, if_pos (by omega)]
  congr 1
theorem r_slot {n : Int} (hn : Wd n) : layout_Plan_Slot.f P T R t n = some ((16 + t * (5 + R) + 5 + (n % (R : Int)).toNat : Nat) : Int) ∧ (n % (R : Int)).toNat < R := by
  have hR := hr.2.2.2.2.1
  have hm := Int.emod_nonneg n (show (R : Int) ≠ 0 by omega)
  have hm1 := Int.emod_lt_of_pos n (show (0 : Int) < R by omega)
  refine ⟨?_, by omega⟩
  rw [Lay.p_slot hr hn.1 (by have := hn.2; omega), if_pos (by omega)]
  congr 1
  push_cast
  omega
set_option maxHeartbeats 1000000 in
theorem push_at {v : Int} (hv : Wd v) {x : PS} {H : List Int} (h : PTr P T R t v x H) (n1 n2 n3 n4 n5 n6 n7 : Int) (y1 y2 y3 : Int) :
    (x.at_ = 4 ∧ ∃ pos2 : Int, windrowref07_Push.f H 0 n1 n2 n3 n4 n5 n6 n7 false P T R y1 y2 y3 t v = some (true, x.full, pos2, n1, n2, n3, n4, n5, n6, n7, false)) ∨
    (x.at_ ≠ 4 ∧ x.full = false ∧ ∃ (pos2 : Int) (kind : Int) (q : Nat) (put : Int), windrowref07_Push.f H 0 n1 n2 n3 n4 n5 n6 n7 false P T R y1 y2 y3 t v = some (false, false, pos2, 0, kind, (q : Int), 0, put, 0, 0, true) ∧ (kind = 1 ∨ kind = 2) ∧ q < Lay.cl P T R ∧ Wd put ∧
      ∀ s : AS, Cw s → ∃ x', PTr P T R t v x' (H ++ [(s.acc true 9 kind q 0 put).2]) ∧ stepC kind q put s x x') := by
  obtain ⟨hd, tl, h⟩ := h
  rcases h with ⟨rfl, rfl⟩ | ⟨rfl, rfl, hw⟩ | ⟨rfl, rfl, hw, hf⟩ | ⟨u, rfl, rfl, hw, hf⟩ | ⟨rfl, rfl, hf⟩ | ⟨u, u2, rfl, rfl, hw, hf⟩
  · refine .inr ⟨(by show (0 : Int) ≠ 4; decide), rfl, _, 1, _, 0, push0 hr ht y1 y2 y3 v (i := 0) rfl, .inl rfl, r_lt hr ht (by omega), ⟨Int.le_refl 0, by decide⟩, fun s hs => ?_⟩
    exact ⟨_, ⟨hd, _, .inr (.inl ⟨rfl, rfl, acc_range hs _ _ _ _ _ _⟩)⟩, fun hD hX hB hl => push_step0 hD 0 rfl _ hX hB (r_tail hr ht) hl⟩
  · refine .inr ⟨(by show (1 : Int) ≠ 4; decide), rfl, _, 1, _, 0, push1 hr ht y1 y2 y3 v (i := 0) rfl (by decide), .inl rfl, r_lt hr ht (by omega), ⟨Int.le_refl 0, by decide⟩, fun s hs => ?_⟩
    by_cases hf : fullP R tl (s.acc true 9 1 ((16 + t * (5 + R) + 3 : Nat) : Int) 0 0).2
    · exact ⟨_, ⟨_, tl, .inr (.inr (.inr (.inr (.inl ⟨rfl, rfl, hf⟩))))⟩, fun hD hX hB hl => push_step1full hD 0 rfl _ hX hB (r_head hr ht) hl hf⟩
    · exact ⟨_, ⟨_, tl, .inr (.inr (.inl ⟨rfl, rfl, hw, hf⟩))⟩, fun hD hX hB hl => push_step1room hD 0 rfl _ hX hB (r_head hr ht) hl hf⟩
  · obtain ⟨e1, e2⟩ := r_slot hr ht hw
    refine .inr ⟨(by show (2 : Int) ≠ 4; decide), rfl, _, 2, _, v, push2 hr ht y1 y2 y3 v (i := 0) rfl (by decide) hw.1 hf, .inr rfl, (by have := r_lt hr ht (j := 5 + (tl % (R : Int)).toNat) (by omega); show 16 + t * (5 + R) + 5 + (tl % (R : Int)).toNat < _; omega), hv, fun s hs => ?_⟩
    exact ⟨_, ⟨hd, tl, .inr (.inr (.inr (.inl ⟨_, rfl, rfl, hw, hf⟩)))⟩, fun hD hX hB hl => push_step2 hD 0 rfl _ hX hB e1 hl⟩
  · refine .inr ⟨(by show (3 : Int) ≠ 4; decide), rfl, _, 2, _, IntKind.u64.wrap (tl + 1), push3 hr ht y1 y2 y3 v (i := 0) rfl (by decide) hw.1 hf, .inr rfl, r_lt hr ht (by omega), wrap_range _, fun s hs => ?_⟩
    exact ⟨_, ⟨hd, tl, .inr (.inr (.inr (.inr (.inr ⟨_, _, rfl, rfl, hw, hf⟩))))⟩, fun hD hX hB hl => push_step3 hD 0 rfl _ hX hB (r_tail hr ht) hl⟩
  · exact .inl ⟨rfl, _, push2full hr ht y1 y2 y3 v (i := 0) (by simp) (by simp) hf⟩
  · exact .inl ⟨rfl, _, push4 hr ht y1 y2 y3 v (i := 0) rfl (by decide) hw.1 hf⟩
def valO (x : OS) : Int := if x.at_ = 4 ∧ x.empty = false then x.v else 0
set_option maxHeartbeats 1000000 in
theorem pop_at {x : OS} {H : List Int} (h : OTr P T R t x H) (n1 n2 n3 n4 n5 n6 n7 : Int) (y1 y2 y3 : Int) :
    (x.at_ = 4 ∧ ∃ pos2 : Int, windrowref07_Pop.f H 0 n1 n2 n3 n4 n5 n6 n7 false P T R y1 y2 y3 t = some (true, x.empty, valO x, pos2, n1, n2, n3, n4, n5, n6, n7, false)) ∨
    (x.at_ ≠ 4 ∧ x.empty = false ∧ ∃ (pos2 : Int) (kind : Int) (q : Nat) (put : Int), windrowref07_Pop.f H 0 n1 n2 n3 n4 n5 n6 n7 false P T R y1 y2 y3 t = some (false, false, 0, pos2, 0, kind, (q : Int), 0, put, 0, 0, true) ∧ (kind = 1 ∨ kind = 2) ∧ q < Lay.cl P T R ∧ Wd put ∧
      ∀ s : AS, Cw s → ∃ x', OTr P T R t x' (H ++ [(s.acc true 9 kind q 0 put).2]) ∧ stepO kind q put s x x') := by
  obtain ⟨hd, tl, v, h⟩ := h
  rcases h with ⟨rfl, rfl⟩ | ⟨rfl, rfl, hw⟩ | ⟨rfl, rfl, hw, hf⟩ | ⟨rfl, rfl, hw, hf⟩ | ⟨rfl, rfl, hf⟩ | ⟨u, rfl, rfl, hw, hf⟩
  · refine .inr ⟨(by show (0 : Int) ≠ 4; decide), rfl, _, 1, _, 0, pop0 hr ht y1 y2 y3 (i := 0) rfl, .inl rfl, r_lt hr ht (by omega), ⟨Int.le_refl 0, by decide⟩, fun s hs => ?_⟩
    exact ⟨_, ⟨_, tl, v, .inr (.inl ⟨rfl, rfl, acc_range hs _ _ _ _ _ _⟩)⟩, fun hD hX hB hl => pop_step0 hD 0 rfl _ hX hB (r_head hr ht) hl⟩
  · refine .inr ⟨(by show (1 : Int) ≠ 4; decide), rfl, _, 1, _, 0, pop1 hr ht y1 y2 y3 (i := 0) rfl (by decide), .inl rfl, r_lt hr ht (by omega), ⟨Int.le_refl 0, by decide⟩, fun s hs => ?_⟩
    by_cases hf : hd = (s.acc true 9 1 ((16 + t * (5 + R) + 4 : Nat) : Int) 0 0).2
    · exact ⟨_, ⟨hd, _, v, .inr (.inr (.inr (.inr (.inl ⟨rfl, rfl, hf⟩))))⟩, fun hD hX hB hl => pop_step1full hD 0 rfl _ hX hB (r_tail hr ht) hl hf⟩
    · exact ⟨_, ⟨hd, _, v, .inr (.inr (.inl ⟨rfl, rfl, hw, hf⟩))⟩, fun hD hX hB hl => pop_step1room hD 0 rfl _ hX hB (r_tail hr ht) hl hf⟩
  · obtain ⟨e1, e2⟩ := r_slot hr ht hw
    refine .inr ⟨(by show (2 : Int) ≠ 4; decide), rfl, _, 1, _, 0, pop2 hr ht y1 y2 y3 (i := 0) rfl (by decide) hw.1 hf, .inl rfl, (by have := r_lt hr ht (j := 5 + (hd % (R : Int)).toNat) (by omega); show 16 + t * (5 + R) + 5 + (hd % (R : Int)).toNat < _; omega), ⟨Int.le_refl 0, by decide⟩, fun s hs => ?_⟩
    exact ⟨_, ⟨hd, tl, _, .inr (.inr (.inr (.inl ⟨rfl, rfl, hw, hf⟩)))⟩, fun hD hX hB hl => pop_step2 hD 0 rfl _ hX hB e1 hl⟩
  · refine .inr ⟨(by show (3 : Int) ≠ 4; decide), rfl, _, 2, _, IntKind.u64.wrap (hd + 1), pop3 hr ht y1 y2 y3 (i := 0) rfl (by decide) hw.1 hf, .inr rfl, r_lt hr ht (by omega), wrap_range _, fun s hs => ?_⟩
    exact ⟨_, ⟨hd, tl, v, .inr (.inr (.inr (.inr (.inr ⟨_, rfl, rfl, hw, hf⟩))))⟩, fun hD hX hB hl => pop_step3 hD 0 rfl _ hX hB (r_head hr ht) hl⟩
  · exact .inl ⟨rfl, _, pop2empty hr ht y1 y2 y3 (i := 0) (by simp) (by simp) hf⟩
  · exact .inl ⟨rfl, _, pop4 hr ht y1 y2 y3 (i := 0) rfl (by decide) hw.1 hf⟩
end
/-- A thread's push. -/
def PsP (B c cc P T R t : Nat) (w : World) (v0 v2 v4 : Value) (O : Nat → Prop) : Prop :=
  v0 = .pointer none ∨ ∃ (m gt : Nat) (A : Option Addr) (cp : Nat) (H : List Int) (pos : Int) (n : Nx) (stop : Bool) (v : Int) (x : PS), v0 = .pointer (some ⟨m, 0, none⟩) ∧ v2 = .pointer (some ⟨gt, 0, none⟩) ∧ v4 = .int .u64 v ∧
    IsTp B w c cc gt A cp H pos n stop ∧ O m ∧ (∀ k, TpOwn gt A cp H.length k → O k) ∧ IsPush w m x ∧ B ≤ m ∧ Wd v ∧ PTr P T R t v x H
/-- A thread's pop. -/
def PoP (B c cc P T R t : Nat) (w : World) (v0 v2 : Value) (O : Nat → Prop) : Prop :=
  v0 = .pointer none ∨ ∃ (m gt : Nat) (A : Option Addr) (cp : Nat) (H : List Int) (pos : Int) (n : Nx) (stop : Bool) (x : OS), v0 = .pointer (some ⟨m, 0, none⟩) ∧ v2 = .pointer (some ⟨gt, 0, none⟩) ∧
    IsTp B w c cc gt A cp H pos n stop ∧ O m ∧ (∀ k, TpOwn gt A cp H.length k → O k) ∧ IsPop w m x ∧ B ≤ m ∧ OTr P T R t x H
/-- What may be new. -/
def Up (O : Nat → Prop) (w w' : World) (k : Nat) : Prop := O k ∨ (w.heap.size ≤ k ∧ k < w'.heap.size)
section
variable {B : Nat} {w w' : World} {a c am cc p P T R t : Nat} {s s2 : AS} {ps qs : List (Nat × Int × Bool)} {v0 v2 v4 : Value} {O O' D : Nat → Prop}
theorem PsP.mono (h : PsP B c cc P T R t w v0 v2 v4 O) (hO : ∀ k, O k → O' k) : PsP B c cc P T R t w v0 v2 v4 O' := by
  rcases h with h | ⟨m, gt, A, cp, H, pos, n, stop, v, x, h0, h1, h2, h3, h4, h6, h7⟩
  · exact .inl h
  · exact .inr ⟨m, gt, A, cp, H, pos, n, stop, v, x, h0, h1, h2, h3, hO _ h4, fun k hk => hO _ (h6 k hk), h7⟩
theorem PoP.mono (h : PoP B c cc P T R t w v0 v2 O) (hO : ∀ k, O k → O' k) : PoP B c cc P T R t w v0 v2 O' := by
  rcases h with h | ⟨m, gt, A, cp, H, pos, n, stop, x, h0, h1, h3, h4, h6, h7⟩
  · exact .inl h
  · exact .inr ⟨m, gt, A, cp, H, pos, n, stop, x, h0, h1, h3, hO _ h4, fun k hk => hO _ (h6 k hk), h7⟩
theorem PsP.fr (h : PsP B c cc P T R t w v0 v2 v4 O) (hd : Duo B w a c s ps am cc s2 qs) (hF : Fr (fun k => D k ∨ TouchD c cc w k) w w') (hD : ∀ k, O k → ¬ D k) : PsP B c cc P T R t w' v0 v2 v4 O := by
  rcases h with h | ⟨m, gt, A, cp, H, pos, n, stop, v, x, h0, h1, h2, h3, h4, h6, h7, h8⟩
  · exact .inl h
  · exact .inr ⟨m, gt, A, cp, H, pos, n, stop, v, x, h0, h1, h2, h3.fr hF (fun k hk z => z.elim (hD k (h6 k hk)) (h3.free hd k hk)), h4, h6, hF.blk h7 (fun z => z.elim (hD m h4) (duo_nt hd h7 (by decide))), h8⟩
theorem PoP.fr (h : PoP B c cc P T R t w v0 v2 O) (hd : Duo B w a c s ps am cc s2 qs) (hF : Fr (fun k => D k ∨ TouchD c cc w k) w w') (hD : ∀ k, O k → ¬ D k) : PoP B c cc P T R t w' v0 v2 O := by
  rcases h with h | ⟨m, gt, A, cp, H, pos, n, stop, x, h0, h1, h3, h4, h6, h7, h8⟩
  · exact .inl h
  · exact .inr ⟨m, gt, A, cp, H, pos, n, stop, x, h0, h1, h3.fr hF (fun k hk z => z.elim (hD k (h6 k hk)) (h3.free hd k hk)), h4, h6, hF.blk h7 (fun z => z.elim (hD m h4) (duo_nt hd h7 (by decide))), h8⟩
end
/-- Behind a step. -/
structure Went (w0 w w' : World) (a c am cc p : Nat) (n : Nat) (s : AS) (O : Nat → Prop) (s' : AS) : Prop where
  duo : Duo w0.heap.size w' a c s' [(p, 9, false)] am cc s' []
  ok : ArOk n s'
  len : s'.log.length ≤ s.log.length + 1
  bel : Below w0.heap.size w0 w'
  fr : Fr (fun k => O k ∨ TouchD c cc w k) w w'
section
variable {w0 w : World} {a c am cc p sb o m gt P T R t : Nat} {s : AS} {arr : Array Value} {v2 v4 : Value} {O : Nat → Prop}
set_option maxHeartbeats 1000000 in
theorem PsP.step (hr : Lay.right P T R) (ht : t < T) (bare : Bool) (h : PsP w0.heap.size c cc P T R t w (.pointer (some ⟨m, 0, none⟩)) v2 v4 O) (hd : Duo w0.heap.size w a c s [(p, 9, false)] am cc s []) (hB : Below w0.heap.size w0 w) (hc : ArOk (Lay.cl P T R) s) (hl : s.log.length ≤ 1000)
    (hS : w.heap[sb]? = some (.cells arr 81 (0, 0))) (e0 : arr[o]? = some (.pointer (some ⟨m, 0, none⟩))) (e2 : arr[o + 2]? = some v2) (e4 : arr[o + 4]? = some v4) :
    Calls Try.prog 36 #[.pointer (some ⟨sb, o, none⟩), .pointer (some ⟨p, 0, none⟩), .pointer (some ⟨am, 0, none⟩), .agg #[.int .i64 P, .int .i64 T, .int .i64 R, .int .i64 (Lay.bs P T R : Nat), .int .i64 (Lay.tb T R : Nat), .int .i64 (Lay.cl P T R : Nat)], .int .i64 t, .bool bare] w fun e w' => e = .returned (.bool true) ∧ ∃ s', Went w0 w w' a c am cc p (Lay.cl P T R) s O s' ∧ PsP w0.heap.size c cc P T R t w' (.pointer (some ⟨m, 0, none⟩)) v2 v4 (Up O w w') := by
  rcases h with h | ⟨m', gt, A, cp, H, pos, n, stop, v, x, h0, rfl, rfl, hT, o1, o3, g4, gB, hv, htr⟩
  · simp at h
  have em : m = m' := by simpa using h0
  subst em
  have still : ∀ (pos2 : Int) (n2 : Nx) (stop2 : Bool), windrowref07_Push.f H 0 n.who n.kind n.at_ n.want n.put n.seen n.left false P T R (Lay.bs P T R : Nat) (Lay.tb T R : Nat) (Lay.cl P T R : Nat) t v = some ((x.at_ == 4), x.full, pos2, n2.who, n2.kind, n2.at_, n2.want, n2.put, n2.seen, n2.left, stop2) → ((x.at_ == 4) || bare) = true →
      (∀ w1, Fr (fun k => TpOwn gt A cp H.length k) w w1 → (Calls Try.prog 24 #[.pointer (some ⟨m, 0, none⟩), .pointer (some ⟨p, 0, none⟩)] w1 fun e w2 => e = .returned (.bool (x.at_ == 4)) ∧ w2 = w1)) →
      Calls Try.prog 36 #[.pointer (some ⟨sb, o, none⟩), .pointer (some ⟨p, 0, none⟩), .pointer (some ⟨am, 0, none⟩), .agg #[.int .i64 P, .int .i64 T, .int .i64 R, .int .i64 (Lay.bs P T R : Nat), .int .i64 (Lay.tb T R : Nat), .int .i64 (Lay.cl P T R : Nat)], .int .i64 t, .bool bare] w fun e w' => e = .returned (.bool true) ∧ ∃ s', Went w0 w w' a c am cc p (Lay.cl P T R) s O s' ∧ PsP w0.heap.size c cc P T R t w' (.pointer (some ⟨m, 0, none⟩)) (.pointer (some ⟨gt, 0, none⟩)) (.int .u64 v) (Up O w w') := by
    intro pos2 n2 stop2 hs1 hob hask
    refine (pushes_still (a := a) (s := s) (p := p) (am := am) bare hB hT hS e0 e2 e4 hs1 hob (fun w1 hF => ⟨hask w1 hF, ?_⟩)).mono ?_
    · have K := hF.blk g4 (tp_not hT g4 (by decide))
      exact ⟨push_over _ m _ K, push_full _ m _ K⟩
    · rintro e w' ⟨rfl, hT', hb, hF⟩
      have hFw : Fr (fun k => O k ∨ TouchD c cc w k) w w' := hF.mono fun k _ hk => .inl (o3 k hk)
      exact ⟨rfl, s, ⟨hd.fr hF (fun k _ hk => hT.free hd k hk), hc, Nat.le_succ _, hb, hFw⟩, .inr ⟨m, gt, A, cp, H, pos2, n2, stop2, v, x, rfl, rfl, rfl, hT', .inl o1, fun k hk => .inl (o3 k hk), hF.blk g4 (tp_not hT g4 (by decide)), gB, hv, htr⟩⟩
  rcases push_at hr ht hv htr n.who n.kind n.at_ n.want n.put n.seen n.left (Lay.bs P T R : Nat) (Lay.tb T R : Nat) (Lay.cl P T R : Nat) with ⟨h4, pos2, hs1⟩ | ⟨h4, hfl, pos2, kind, q, put, hs1, hkd, hq, hput, hall⟩
  · have e4' : (x.at_ == 4) = true := by rw [h4]; rfl
    exact still pos2 ⟨n.who, n.kind, n.at_, n.want, n.put, n.seen, n.left⟩ false (by rw [e4']; exact hs1) (by rw [e4']; rfl) (fun w1 hF => by rw [e4']; exact push_step_over _ m _ _ (hF.blk g4 (tp_not hT g4 (by decide))) h4)
  have e4' : (x.at_ == 4) = false := by simpa using h4
  have hvx : True := trivial
  cases bare with
  | true => exact still pos2 ⟨0, kind, q, 0, put, 0, 0⟩ true (by rw [e4', hfl]; exact hs1) (by rw [e4']; rfl) (fun w1 hF => by rw [e4']; exact push_step_shut (hd.fr hF (fun k _ hk => hT.free hd k hk)) 0 rfl m _ (hF.blk g4 (tp_not hT g4 (by decide))) h4)
  | false =>
    obtain ⟨x', htr', hst⟩ := hall s hc.cw
    have hko := acc_kept hc hq 9 kind put hkd hput
    obtain ⟨sa, hsa⟩ : ∃ sa, s.acc true 9 kind (q : Int) 0 put = sa := ⟨_, rfl⟩
    rw [hsa] at hko htr'
    have hs2 : ∃ (pos3 : Int) (n3 : Nx) (stop3 : Bool), windrowref07_Push.f (H ++ [sa.2]) 0 0 kind q 0 put 0 0 false P T R (Lay.bs P T R : Nat) (Lay.tb T R : Nat) (Lay.cl P T R : Nat) t v = some ((x'.at_ == 4), x'.full, pos3, n3.who, n3.kind, n3.at_, n3.want, n3.put, n3.seen, n3.left, stop3) := by
      rcases push_at hr ht hv htr' 0 kind q 0 put 0 0 (Lay.bs P T R : Nat) (Lay.tb T R : Nat) (Lay.cl P T R : Nat) with ⟨h4', pos3, hs3⟩ | ⟨h4', hfl', pos3, kind3, q3, put3, hs3, -⟩
      · exact ⟨pos3, ⟨0, kind, q, 0, put, 0, 0⟩, false, by rw [show (x'.at_ == 4) = true by rw [h4']; rfl]; exact hs3⟩
      · exact ⟨pos3, ⟨0, kind3, q3, 0, put3, 0, 0⟩, true, by rw [show (x'.at_ == 4) = false by simpa using h4', hfl']; exact hs3⟩
    obtain ⟨pos3, n3, stop3, hs3⟩ := hs2
    refine (pushes_go (p := p) (am := am) (w0 := w0) hB hT hS e0 e2 e4 hd (fun w1 => IsPush w1 m x) (fun w1 => IsPush w1 m x') (fun k => k = m) g4
      (fun w1 w2 S h hF hS => hF.blk h (fun z => hS _ z rfl)) (fun w1 h k hk => by subst hk; exact ⟨_, _, h, .inl rfl⟩)
      (n2 := ⟨0, kind, q, 0, put, 0, 0⟩) hs1 (by rcases hkd with h | h <;> (show 1 ≤ kind ∧ kind ≤ 6) <;> omega) sa hsa hs3 (by omega) (Nat.le_trans htr.len (by decide))
      (fun w1 hd1 hx1' => ?_) (fun w1 K => ⟨push_over _ m _ K, push_full _ m _ K⟩)).mono ?_
    · have hm := hst hd1 hx1' gB (by omega)
      rw [hsa] at hm
      exact hm
    · rintro e w' ⟨rfl, k1, k2, k3, k4, A', cp', k5, k6⟩
      refine ⟨rfl, sa.1, ⟨k1, hko.1, hko.2, k3, k4.mono fun k _ z => ?_⟩, .inr ⟨m, gt, A', cp', _, pos3, n3, stop3, v, x', rfl, rfl, rfl, k5, .inl o1, fun k hk => ?_, k2, gB, hv, htr'⟩⟩
      · rcases z with rfl | z | z
        · exact .inl o1
        · exact .inl (o3 k z)
        · exact .inr z
      · rcases k6 k hk with z | z
        · exact .inl (o3 k z)
        · refine .inr ⟨z, ?_⟩
          rcases hk with rfl | hk
          · exact blk_lt k5.blk
          · obtain ⟨⟨cs, h1⟩, _⟩ := own_touch2 k5.row k hk
            exact blk_lt h1
set_option maxHeartbeats 1000000 in
theorem PoP.step (hr : Lay.right P T R) (ht : t < T) (bare : Bool) (h : PoP w0.heap.size c cc P T R t w (.pointer (some ⟨m, 0, none⟩)) v2 O) (hd : Duo w0.heap.size w a c s [(p, 9, false)] am cc s []) (hB : Below w0.heap.size w0 w) (hc : ArOk (Lay.cl P T R) s) (hl : s.log.length ≤ 1000)
    (hS : w.heap[sb]? = some (.cells arr 81 (0, 0))) (e0 : arr[o + 1]? = some (.pointer (some ⟨m, 0, none⟩))) (e2 : arr[o + 3]? = some v2) :
    Calls Try.prog 37 #[.pointer (some ⟨sb, o, none⟩), .pointer (some ⟨p, 0, none⟩), .pointer (some ⟨am, 0, none⟩), .agg #[.int .i64 P, .int .i64 T, .int .i64 R, .int .i64 (Lay.bs P T R : Nat), .int .i64 (Lay.tb T R : Nat), .int .i64 (Lay.cl P T R : Nat)], .int .i64 t, .bool bare] w fun e w' => e = .returned (.bool true) ∧ ∃ s', Went w0 w w' a c am cc p (Lay.cl P T R) s O s' ∧ PoP w0.heap.size c cc P T R t w' (.pointer (some ⟨m, 0, none⟩)) v2 (Up O w w') := by
  rcases h with h | ⟨m', gt, A, cp, H, pos, n, stop, x, h0, rfl, hT, o1, o3, g4, gB, htr⟩
  · simp at h
  have em : m = m' := by simpa using h0
  subst em
  have still : ∀ (pos2 : Int) (n2 : Nx) (stop2 : Bool), windrowref07_Pop.f H 0 n.who n.kind n.at_ n.want n.put n.seen n.left false P T R (Lay.bs P T R : Nat) (Lay.tb T R : Nat) (Lay.cl P T R : Nat) t = some ((x.at_ == 4), x.empty, valO x, pos2, n2.who, n2.kind, n2.at_, n2.want, n2.put, n2.seen, n2.left, stop2) → ((x.at_ == 4) || bare) = true →
      (∀ w1, Fr (fun k => TpOwn gt A cp H.length k) w w1 → (Calls Try.prog 26 #[.pointer (some ⟨m, 0, none⟩), .pointer (some ⟨p, 0, none⟩)] w1 fun e w2 => e = .returned (.bool (x.at_ == 4)) ∧ w2 = w1)) →
      Calls Try.prog 37 #[.pointer (some ⟨sb, o, none⟩), .pointer (some ⟨p, 0, none⟩), .pointer (some ⟨am, 0, none⟩), .agg #[.int .i64 P, .int .i64 T, .int .i64 R, .int .i64 (Lay.bs P T R : Nat), .int .i64 (Lay.tb T R : Nat), .int .i64 (Lay.cl P T R : Nat)], .int .i64 t, .bool bare] w fun e w' => e = .returned (.bool true) ∧ ∃ s', Went w0 w w' a c am cc p (Lay.cl P T R) s O s' ∧ PoP w0.heap.size c cc P T R t w' (.pointer (some ⟨m, 0, none⟩)) (.pointer (some ⟨gt, 0, none⟩)) (Up O w w') := by
    intro pos2 n2 stop2 hs1 hob hask
    refine (pops_still (a := a) (s := s) (p := p) (am := am) bare hB hT hS e0 e2 hs1 hob (fun w1 hF => ⟨hask w1 hF, ?_⟩)).mono ?_
    · have K := hF.blk g4 (tp_not hT g4 (by decide))
      exact ⟨pop_over _ m _ K, pop_empty _ m _ K, pop_value _ m _ K⟩
    · rintro e w' ⟨rfl, hT', hb, hF⟩
      have hFw : Fr (fun k => O k ∨ TouchD c cc w k) w w' := hF.mono fun k _ hk => .inl (o3 k hk)
      exact ⟨rfl, s, ⟨hd.fr hF (fun k _ hk => hT.free hd k hk), hc, Nat.le_succ _, hb, hFw⟩, .inr ⟨m, gt, A, cp, H, pos2, n2, stop2, x, rfl, rfl, hT', .inl o1, fun k hk => .inl (o3 k hk), hF.blk g4 (tp_not hT g4 (by decide)), gB, htr⟩⟩
  rcases pop_at hr ht htr n.who n.kind n.at_ n.want n.put n.seen n.left (Lay.bs P T R : Nat) (Lay.tb T R : Nat) (Lay.cl P T R : Nat) with ⟨h4, pos2, hs1⟩ | ⟨h4, hfl, pos2, kind, q, put, hs1, hkd, hq, hput, hall⟩
  · have e4' : (x.at_ == 4) = true := by rw [h4]; rfl
    exact still pos2 ⟨n.who, n.kind, n.at_, n.want, n.put, n.seen, n.left⟩ false (by rw [e4']; exact hs1) (by rw [e4']; rfl) (fun w1 hF => by rw [e4']; exact pop_step_over _ m _ _ (hF.blk g4 (tp_not hT g4 (by decide))) h4)
  have e4' : (x.at_ == 4) = false := by simpa using h4
  have hvx : valO x = 0 := by unfold valO; rw [if_neg (fun z => h4 z.1)]
  cases bare with
  | true => exact still pos2 ⟨0, kind, q, 0, put, 0, 0⟩ true (by rw [e4', hfl, hvx]; exact hs1) (by rw [e4']; rfl) (fun w1 hF => by rw [e4']; exact pop_step_shut (hd.fr hF (fun k _ hk => hT.free hd k hk)) 0 rfl m _ (hF.blk g4 (tp_not hT g4 (by decide))) h4)
  | false =>
    obtain ⟨x', htr', hst⟩ := hall s hc.cw
    have hko := acc_kept hc hq 9 kind put hkd hput
    obtain ⟨sa, hsa⟩ : ∃ sa, s.acc true 9 kind (q : Int) 0 put = sa := ⟨_, rfl⟩
    rw [hsa] at hko htr'
    have hs2 : ∃ (pos3 : Int) (n3 : Nx) (stop3 : Bool), windrowref07_Pop.f (H ++ [sa.2]) 0 0 kind q 0 put 0 0 false P T R (Lay.bs P T R : Nat) (Lay.tb T R : Nat) (Lay.cl P T R : Nat) t = some ((x'.at_ == 4), x'.empty, valO x', pos3, n3.who, n3.kind, n3.at_, n3.want, n3.put, n3.seen, n3.left, stop3) := by
      rcases pop_at hr ht htr' 0 kind q 0 put 0 0 (Lay.bs P T R : Nat) (Lay.tb T R : Nat) (Lay.cl P T R : Nat) with ⟨h4', pos3, hs3⟩ | ⟨h4', hfl', pos3, kind3, q3, put3, hs3, -⟩
      · exact ⟨pos3, ⟨0, kind, q, 0, put, 0, 0⟩, false, by rw [show (x'.at_ == 4) = true by rw [h4']; rfl]; exact hs3⟩
      · exact ⟨pos3, ⟨0, kind3, q3, 0, put3, 0, 0⟩, true, by rw [show (x'.at_ == 4) = false by simpa using h4', hfl', show valO x' = 0 by unfold valO; rw [if_neg (fun z => h4' z.1)]]; exact hs3⟩
    obtain ⟨pos3, n3, stop3, hs3⟩ := hs2
    refine (pops_go (p := p) (am := am) (w0 := w0) hB hT hS e0 e2 hd (fun w1 => IsPop w1 m x) (fun w1 => IsPop w1 m x') (fun k => k = m) g4
      (fun w1 w2 S h hF hS => hF.blk h (fun z => hS _ z rfl)) (fun w1 h k hk => by subst hk; exact ⟨_, _, h, .inr rfl⟩)
      (n2 := ⟨0, kind, q, 0, put, 0, 0⟩) hs1 (by rcases hkd with h | h <;> (show 1 ≤ kind ∧ kind ≤ 6) <;> omega) sa hsa hs3 (by omega) (Nat.le_trans htr.len (by decide))
      (fun w1 hd1 hx1' => ?_) (fun w1 K => ⟨pop_over _ m _ K, pop_empty _ m _ K, pop_value _ m _ K⟩)).mono ?_
    · have hm := hst hd1 hx1' gB (by omega)
      rw [hsa] at hm
      exact hm
    · rintro e w' ⟨rfl, k1, k2, k3, k4, A', cp', k5, k6⟩
      refine ⟨rfl, sa.1, ⟨k1, hko.1, hko.2, k3, k4.mono fun k _ z => ?_⟩, .inr ⟨m, gt, A', cp', _, pos3, n3, stop3, x', rfl, rfl, k5, .inl o1, fun k hk => ?_, k2, gB, htr'⟩⟩
      · rcases z with rfl | z | z
        · exact .inl o1
        · exact .inl (o3 k z)
        · exact .inr z
      · rcases k6 k hk with z | z
        · exact .inl (o3 k z)
        · refine .inr ⟨z, ?_⟩
          rcases hk with rfl | hk
          · exact blk_lt k5.blk
          · obtain ⟨⟨cs, h1⟩, _⟩ := own_touch2 k5.row k hk
            exact blk_lt h1
end
end Go.Proofs.Ytdcikbhfoplkmaa.Dd
/- RingSteps: what holds at the head of its loop; what a step, or a new machine, leaves of it. -/
namespace Go.Proofs.Ytdcikbhfoplkmaa.Dd
open Go Go.RowKit Go.Proofs.Ytdcikbhfoplkmaa.Hp Go.Proofs.Ytdcikbhfoplkmaa.PH Go.Proofs.Ytdcikbhfoplkmaa.Ar Go.Proofs.Ytdcikbhfoplkmaa.Eo
set_option linter.unusedVariables false
set_option linter.unusedSimpArgs false
set_option linter.unusedSectionVars false

/-- The blocks that the law holds beside the machines: the sides, the plan, the drawn plan, the answer. -/
structure Fx where
  a : Nat
  c : Nat
  am : Nat
  cc : Nat
  p : Nat
  sb : Nat
  qb : Nat
  db : Nat
  rb : Nat
  fb : Nat
def mapC (P T R : Nat) : Array Value := #[.int .i64 P, .int .i64 T, .int .i64 R, .int .i64 (Lay.bs P T R : Nat), .int .i64 (Lay.tb T R : Nat), .int .i64 (Lay.cl P T R : Nat)]
structure Bx (w : World) (f : Fx) (P T R : Nat) (arr : Array Value) : Prop where
  sd : w.heap[f.sb]? = some (.cells arr 81 (0, 0))
  qk : w.heap[f.qb]? = some (.cells #[.int .i64 P, .int .i64 T, .int .i64 R] 23 (0, 0))
  dk : w.heap[f.db]? = some (.cells (mapC P T R) 43 (0, 0))
  rk : w.heap[f.rb]? = some (.cells #[.bool false] 4 (0, 0))
structure PartS (B : Nat) (w : World) (f : Fx) (P T R : Nat) (arr : Array Value) (O : Nat → Nat → Prop) (t : Nat) (v0 v1 v2 v3 v4 : Value) : Prop where
  e0 : arr[t * 5]? = some v0
  e1 : arr[t * 5 + 1]? = some v1
  e2 : arr[t * 5 + 2]? = some v2
  e3 : arr[t * 5 + 3]? = some v3
  e4 : arr[t * 5 + 4]? = some v4
  sh : PsP B f.c f.cc P T R t w v0 v2 v4 (O (2 * t))
  mp : PoP B f.c f.cc P T R t w v1 v3 (O (2 * t + 1))
structure Inv (w0 w : World) (f : Fx) (P T R : Nat) (s : AS) (O : Nat → Nat → Prop) (arr : Array Value) : Prop where
  duo : Duo w0.heap.size w f.a f.c s [(f.p, 9, false)] f.am f.cc s []
  ok : ArOk (Lay.cl P T R) s
  bel : Below w0.heap.size w0 w
  bx : Bx w f P T R arr
  siz : arr.size = T * 5
  part : ∀ t, t < T → ∃ v0 v1 v2 v3 v4, PartS w0.heap.size w f P T R arr O t v0 v1 v2 v3 v4
  dis : ∀ i j, i ≠ j → ∀ k, O i k → ¬ O j k
  rng : ∀ i k, O i k → f.fb ≤ k ∧ k < w.heap.size
  low : f.sb < f.fb ∧ f.qb < f.fb ∧ f.db < f.fb ∧ f.rb < f.fb ∧ f.fb ≤ w.heap.size
  base : w0.heap.size ≤ f.sb
section
variable {w0 w w' : World} {f : Fx} {P T R t : Nat} {s s' : AS} {O : Nat → Nat → Prop} {arr : Array Value} {D : Nat → Prop}
theorem Bx.fr {B : Nat} {ps qs : List (Nat × Int × Bool)} {s2 : AS} (h : Bx w f P T R arr) (hd : Duo B w f.a f.c s ps f.am f.cc s2 qs) (hF : Fr (fun k => D k ∨ TouchD f.c f.cc w k) w w') (hD : ¬ D f.sb ∧ ¬ D f.qb ∧ ¬ D f.db ∧ ¬ D f.rb) : Bx w' f P T R arr :=
  ⟨hF.blk h.sd (fun z => z.elim hD.1 (duo_nt hd h.sd (by decide))), hF.blk h.qk (fun z => z.elim hD.2.1 (duo_nt hd h.qk (by decide))), hF.blk h.dk (fun z => z.elim hD.2.2.1 (duo_nt hd h.dk (by decide))), hF.blk h.rk (fun z => z.elim hD.2.2.2 (duo_nt hd h.rk (by decide)))⟩
theorem Inv.far (h : Inv w0 w f P T R s O arr) (i : Nat) : ¬ O i f.sb ∧ ¬ O i f.qb ∧ ¬ O i f.db ∧ ¬ O i f.rb := by
  obtain ⟨h1, h2, h3, h4, _⟩ := h.low
  refine ⟨fun z => ?_, fun z => ?_, fun z => ?_, fun z => ?_⟩ <;> (have := (h.rng i _ z).1; omega)
theorem Inv.still (h : Inv w0 w f P T R s O arr) (hF : Fr (fun _ => False) w w') : Inv w0 w' f P T R s O arr := by
  have hF' : Fr (fun k => (fun _ => False) k ∨ TouchD f.c f.cc w k) w w' := hF.mono fun _ _ z => z.elim
  refine ⟨h.duo.still hF, h.ok, h.bel.trans ((Fr.toBelow (Below.refl _ w) (Nat.le_refl _) hF (fun _ z => z.elim)).mono h.bel.size), h.bx.fr h.duo hF' ⟨id, id, id, id⟩, h.siz, fun t ht => ?_, h.dis, fun i k hk => ⟨(h.rng i k hk).1, Nat.lt_of_lt_of_le (h.rng i k hk).2 hF.size⟩, ⟨h.low.1, h.low.2.1, h.low.2.2.1, h.low.2.2.2.1, Nat.le_trans h.low.2.2.2.2 hF.size⟩, h.base⟩
  obtain ⟨v0, v1, v2, v3, v4, q⟩ := h.part t ht
  exact ⟨v0, v1, v2, v3, v4, q.e0, q.e1, q.e2, q.e3, q.e4, q.sh.fr h.duo hF' (fun _ _ => id), q.mp.fr h.duo hF' (fun _ _ => id)⟩
theorem Inv.below (h : Inv w0 w f P T R s O arr) (hb : Below w.heap.size w w') : Inv w0 w' f P T R s O arr := h.still ((Fr.refl _ w).below hb)
theorem Inv.drew (h : Inv w0 w f P T R s O arr) : Inv w0 w.drew f P T R s O arr := h.still ((Fr.refl _ w).drew)
/-- A step of one machine. -/
theorem Inv.went (h : Inv w0 w f P T R s O arr) {j : Nat} (hw : Went w0 w w' f.a f.c f.am f.cc f.p (Lay.cl P T R) s (O j) s')
    (hS : ∀ t v0 v1 v2 v3 v4, t < T → PartS w0.heap.size w f P T R arr O t v0 v1 v2 v3 v4 → 2 * t = j → PsP w0.heap.size f.c f.cc P T R t w' v0 v2 v4 (Up (O j) w w'))
    (hM : ∀ t v0 v1 v2 v3 v4, t < T → PartS w0.heap.size w f P T R arr O t v0 v1 v2 v3 v4 → 2 * t + 1 = j → PoP w0.heap.size f.c f.cc P T R t w' v1 v3 (Up (O j) w w')) :
    Inv w0 w' f P T R s' (fun i => if i = j then Up (O j) w w' else O i) arr := by
  have hlow := h.low
  have hsz := hw.fr.size
  have hO : ∀ i k, (if i = j then Up (O j) w w' else O i) k → O i k ∨ (i = j ∧ w.heap.size ≤ k ∧ k < w'.heap.size) := fun i k hk => by
    by_cases e : i = j
    · subst e; rw [if_pos rfl] at hk; exact hk.imp id (fun z => ⟨rfl, z⟩)
    · rw [if_neg e] at hk; exact .inl hk
  refine ⟨hw.duo, hw.ok, hw.bel, h.bx.fr h.duo hw.fr (h.far j), h.siz, fun t ht => ?_, fun i i' hne k h1 h2 => ?_, fun i k hk => ?_, ⟨hlow.1, hlow.2.1, hlow.2.2.1, hlow.2.2.2.1, Nat.le_trans hlow.2.2.2.2 hsz⟩, h.base⟩
  · obtain ⟨v0, v1, v2, v3, v4, q⟩ := h.part t ht
    refine ⟨v0, v1, v2, v3, v4, q.e0, q.e1, q.e2, q.e3, q.e4, ?_, ?_⟩
    · by_cases e : 2 * t = j
      · rw [if_pos e]; exact hS t _ _ _ _ _ ht q e
      · rw [if_neg e]; exact q.sh.fr h.duo hw.fr (fun k h1 h2 => h.dis _ _ e k h1 h2)
    · by_cases e : 2 * t + 1 = j
      · rw [if_pos e]; exact hM t _ _ _ _ _ ht q e
      · rw [if_neg e]; exact q.mp.fr h.duo hw.fr (fun k h1 h2 => h.dis _ _ e k h1 h2)
  · rcases hO _ _ h1 with a1 | ⟨a1, a2, a3⟩ <;> rcases hO _ _ h2 with b1 | ⟨b1, b2, b3⟩
    · exact h.dis i i' hne k a1 b1
    · have := (h.rng _ _ a1).2; omega
    · have := (h.rng _ _ b1).2; omega
    · exact hne (a1.trans b1.symm)
  · rcases hO _ _ hk with a1 | ⟨a1, a2, a3⟩
    · exact ⟨(h.rng _ _ a1).1, Nat.lt_of_lt_of_le (h.rng _ _ a1).2 hsz⟩
    · exact ⟨by omega, a3⟩
/-- The shade of a thread makes a step. -/
theorem Inv.stepS (h : Inv w0 w f P T R s O arr) (hr : Lay.right P T R) (ht : t < T) (bare : Bool) {m : Nat} (e0 : arr[t * 5]? = some (.pointer (some ⟨m, 0, none⟩))) (hl : s.log.length ≤ 1000) :
    Calls Try.prog 36 #[.pointer (some ⟨f.sb, t * 5, none⟩), .pointer (some ⟨f.p, 0, none⟩), .pointer (some ⟨f.am, 0, none⟩), .agg (mapC P T R), .int .i64 t, .bool bare] w fun e w' => e = .returned (.bool true) ∧ ∃ s' O', Inv w0 w' f P T R s' O' arr ∧ s'.log.length ≤ s.log.length + 1 := by
  obtain ⟨v0, v1, v2, v3, v4, q⟩ := h.part t ht
  obtain rfl : v0 = .pointer (some ⟨m, 0, none⟩) := Option.some.inj (q.e0.symm.trans e0)
  refine (PsP.step hr ht bare q.sh h.duo h.bel h.ok hl h.bx.sd e0 q.e2 q.e4).mono ?_
  rintro e w' ⟨rfl, s', hw, hp⟩
  refine ⟨rfl, s', _, h.went hw (fun t' u0 u1 u2 u3 u4 ht' q' e => ?_) (fun t' u0 u1 u2 u3 u4 ht' q' e => by omega), hw.len⟩
  · obtain rfl : t' = t := by omega
    obtain rfl := Option.some.inj (q'.e0.symm.trans e0)
    obtain rfl := Option.some.inj (q'.e2.symm.trans q.e2)
    obtain rfl := Option.some.inj (q'.e4.symm.trans q.e4)
    exact hp
theorem Inv.stepM (h : Inv w0 w f P T R s O arr) (hr : Lay.right P T R) (ht : t < T) (bare : Bool) {m : Nat} (e0 : arr[t * 5 + 1]? = some (.pointer (some ⟨m, 0, none⟩))) (hl : s.log.length ≤ 1000) :
    Calls Try.prog 37 #[.pointer (some ⟨f.sb, t * 5, none⟩), .pointer (some ⟨f.p, 0, none⟩), .pointer (some ⟨f.am, 0, none⟩), .agg (mapC P T R), .int .i64 t, .bool bare] w fun e w' => e = .returned (.bool true) ∧ ∃ s' O', Inv w0 w' f P T R s' O' arr ∧ s'.log.length ≤ s.log.length + 1 := by
  obtain ⟨v0, v1, v2, v3, v4, q⟩ := h.part t ht
  obtain rfl : v1 = .pointer (some ⟨m, 0, none⟩) := Option.some.inj (q.e1.symm.trans e0)
  refine (PoP.step hr ht bare q.mp h.duo h.bel h.ok hl h.bx.sd e0 q.e3).mono ?_
  rintro e w' ⟨rfl, s', hw, hp⟩
  refine ⟨rfl, s', _, h.went hw (fun t' u0 u1 u2 u3 u4 ht' q' e => by omega) (fun t' u0 u1 u2 u3 u4 ht' q' e => ?_), hw.len⟩
  · obtain rfl : t' = t := by omega
    obtain rfl := Option.some.inj (q'.e1.symm.trans e0)
    obtain rfl := Option.some.inj (q'.e3.symm.trans q.e3)
    exact hp
end
end Go.Proofs.Ytdcikbhfoplkmaa.Dd
/- Log: the accesses that were kept, one behind the other. -/
namespace Go.Proofs.Ytdcikbhfoplkmaa.Ar
open Go Go.RowKit Go.Shelf Go.Proofs.Ytdcikbhfoplkmaa.Hp
open Go.Proofs.YtdcikbhfoplkmaaW.PrintWords (Kd Drawn0 rd LeO)
open Go.Proofs.Ytdcikbhfoplkmaa.PH
set_option linter.unusedVariables false
set_option linter.unusedSimpArgs false
attribute [local go_sem] Oper.semAt_some

/-- A log in block b, as it is read. -/
def LogAt (W : World) (b : Nat) (log : List Acc) : Prop :=
  b < W.heap.size ∧ ∀ i x, log[i]? = some x → W.cell? ⟨b, i * 7, none⟩ = some (.int .i64 x.who) ∧ W.cell? ⟨b, i * 7 + 1, none⟩ = some (.int .i64 x.kind) ∧ W.cell? ⟨b, i * 7 + 2, none⟩ = some (.int .i64 x.at_) ∧
      W.cell? ⟨b, i * 7 + 3, none⟩ = some (.int .u64 x.want) ∧ W.cell? ⟨b, i * 7 + 4, none⟩ = some (.int .u64 x.put) ∧ W.cell? ⟨b, i * 7 + 5, none⟩ = some (.int .u64 x.seen) ∧ W.cell? ⟨b, i * 7 + 6, none⟩ = some (.int .u64 x.left)

theorem flat_get : ∀ (log : List Acc) (i : Nat) (x : Acc) (j : Nat), log[i]? = some x → j < 7 → (log.flatMap Acc.cells)[i * 7 + j]? = (Acc.cells x)[j]?
  | [], i, x, j, h, _ => by simp at h
  | y :: log, 0, x, j, h, hj => by
    simp at h; subst h
    rw [List.flatMap_cons, Nat.zero_mul, Nat.zero_add, List.getElem?_append_left (by simp [Acc.cells]; omega)]
  | y :: log, i + 1, x, j, h, hj => by
    rw [List.flatMap_cons, List.getElem?_append_right (by simp [Acc.cells]; omega)]
    rw [show (i + 1) * 7 + j - (Acc.cells y).length = i * 7 + j by simp [Acc.cells]; omega]
    exact flat_get log i x j (by simpa using h) hj

theorem logAt_of {B : Nat} {w : World} {lv : Value} {log : List Acc} (h : w.ownsRow B 83 7 lv log.length (log.flatMap Acc.cells)) : (lv = .slice none 0 0 ∧ log = []) ∨ ∃ b cap, lv = .slice (some ⟨b, 0, none⟩) log.length cap ∧ log.length ≤ cap ∧ LogAt w b log := by
  rcases h.2 with ⟨rfl, h2⟩ | ⟨g, cap, cur, rfl, h3, h4, h5, h6, h7, h8⟩
  · exact .inl ⟨rfl, List.length_eq_zero_iff.1 h2⟩
  · refine .inr ⟨g, cap, rfl, h5, blk_lt h4, fun i x hx => ?_⟩
    have hi : i < log.length := (List.getElem?_eq_some_iff.1 hx).1
    have key : ∀ j u, j < 7 → (Acc.cells x)[j]? = some u → w.cell? ⟨g, i * 7 + j, none⟩ = some u := by
      intro j u hj hu
      have e1 := congrArg (fun l => l[i * 7 + j]?) h8
      rw [List.getElem?_take_of_lt (by omega), flat_get log i x j hx hj, hu, Array.getElem?_toList] at e1
      simp [World.cell?, h4, e1]
    exact ⟨key 0 _ (by omega) rfl, key 1 _ (by omega) rfl, key 2 _ (by omega) rfl, key 3 _ (by omega) rfl, key 4 _ (by omega) rfl, key 5 _ (by omega) rfl, key 6 _ (by omega) rfl⟩
theorem LogAt.below {n₀ b : Nat} {A W : World} {log : List Acc} (h : LogAt A b log) (hb : Below n₀ A W) (hn : b < n₀) : LogAt W b log := by
  obtain ⟨hlt, hcell⟩ := h
  refine ⟨Nat.lt_of_lt_of_le hlt hb.size, fun i x hx => ?_⟩
  obtain ⟨a0, a1, a2, a3, a4, a5, a6⟩ := hcell i x hx
  exact ⟨(hb.cell (p := ⟨b, _, none⟩) hn).trans a0, (hb.cell (p := ⟨b, _, none⟩) hn).trans a1, (hb.cell (p := ⟨b, _, none⟩) hn).trans a2, (hb.cell (p := ⟨b, _, none⟩) hn).trans a3, (hb.cell (p := ⟨b, _, none⟩) hn).trans a4, (hb.cell (p := ⟨b, _, none⟩) hn).trans a5, (hb.cell (p := ⟨b, _, none⟩) hn).trans a6⟩

/-- What has come when k rounds are over. -/
def told (log : List Acc) (k : Nat) : List (Nat × Acc) := (log.take k).zipIdx.map fun x => (x.2, x.1)
theorem told_succ (log : List Acc) (k : Nat) (x : Acc) (h : log[k]? = some x) : told log (k + 1) = told log k ++ [(k, x)] := by
  have hk : k < log.length := (List.getElem?_eq_some_iff.1 h).1
  unfold told
  rw [List.take_add_one, h]
  simp [List.zipIdx_append, Nat.min_eq_left (Nat.le_of_lt hk)]
theorem told_length (log : List Acc) (k : Nat) (h : k ≤ log.length) : (told log k).length = k := by simp [told]; omega

def encAcc (x : Nat × Acc) : Array Value := #[.int .i64 x.1, .agg #[.int .i64 x.2.who, .int .i64 x.2.kind, .int .i64 x.2.at_, .int .u64 x.2.want, .int .u64 x.2.put, .int .u64 x.2.seen, .int .u64 x.2.left]]

set_option maxRecDepth 100000 in
set_option maxHeartbeats 4000000 in
theorem log1_in (n : Nat) (hn : 1 ≤ n) (l Bn n₀ a : Nat) (lv : Value) (log : List Acc) (J Jx : List (Nat × Acc) → World → Prop)
    (hY : ∀ pre x W, J pre W → pre.length < log.length → YieldAt Fence.wide (n - 1) Try.prog l (encAcc x) W fun e W' =>
      (e = .returned (.bool true) ∧ J (pre ++ [x]) W' ∧ Below n₀ W W') ∨ (e = .returned (.bool false) ∧ Jx (pre ++ [x]) W'))
    (hJ : ∀ pre W, J pre W → ∀ o : Obj, J pre (W.alloc o))
    (W : World) (hs : log.length ≤ 1000000) (hnW : n₀ ≤ W.heap.size) (hBn : W.cell? ⟨Bn, 0, none⟩ = some (.pointer (some ⟨a, 0, none⟩))) (hA : W.cell? ⟨a, 1, none⟩ = some lv) (hL : (lv = .slice none 0 0 ∧ log = []) ∨ ∃ b cap, lv = .slice (some ⟨b, 0, none⟩) log.length cap ∧ log.length ≤ cap ∧ b < n₀ ∧ LogAt W b log) (h0 : J [] W) :
    CallsIn Fence.wide n Try.prog 60 #[.func (.yield l) #[] #[], .pointer (some ⟨Bn, 0, none⟩)] W fun e W' => (∃ v, e = .returned v) ∧
      ((∃ ys, ys = told log log.length ∧ J ys W') ∨ (∃ pre, True ∧ Jx pre W')) := by
  refine callsIn_of_wp Try.func60 rfl trivial ?_ rfl
  simp only [Try.ntmps60, List.size_toArray, List.length_cons, List.length_nil, Nat.reduceAdd, Nat.reduceSub, Array.replicate_succ, Array.replicate_zero, List.push_toArray, List.append_toArray, List.nil_append, List.cons_append]
  rcases hL with ⟨rfl, rfl⟩ | ⟨b, cap, rfl, hc, hbn, hL⟩
  · clear hY hJ
    gi_wp2
    gi_loopw [12] (fun i wr => i = .int .i64 0 ∧ J [] wr) (fun i _ => 0)
    case atStart => exact ⟨rfl, h0⟩
    case round =>
      obtain ⟨rfl, hJs⟩ := hrel
      gi_wp2
      go_end0
      exact ⟨⟨_, rfl⟩, .inl ⟨[], rfl, hJs⟩⟩
  · have HL := Lib.hid hL
    clear hL
    gi_wp2
    gi_loopw [12] (fun i wr => ∃ k : Nat, k ≤ log.length ∧ i = .int .i64 k ∧ J (told log k) wr ∧ Below n₀ W wr) (fun i _ => log.length - (intOf i).toNat)
    case atStart => exact ⟨0, Nat.zero_le _, rfl, h0, Below.refl _ _⟩
    case round =>
      obtain ⟨k, hk, rfl, hJs, hBs⟩ := hrel
      by_cases hlt : k < log.length
      · obtain ⟨x, hx⟩ : ∃ x, log[k]? = some x := ⟨_, List.getElem?_eq_getElem hlt⟩
        obtain ⟨hbl, hcx⟩ := HL.out.below hBs hbn
        obtain ⟨a0, a1, a2, a3, a4, a5, a6⟩ := hcx k x hx
        have hts := told_succ log k x hx
        have htl := told_length log k hk
        obtain ⟨fn, tmps, assign, body, hy, hR⟩ := hY (told log k) (k, x) (wr.alloc (.cells #[.int .i64 x.who, .int .i64 x.kind, .int .i64 x.at_, .int .u64 x.want, .int .u64 x.put, .int .u64 x.seen, .int .u64 x.left] 83)) (hJ _ _ hJs _) (by omega)
        have HTS := Lib.hid hts
        have HX := Lib.hid hx
        clear hts hx hcx hY htl
        unfold encAcc at hy
        dsimp only at hy
        gi_wp2
        refine hR.mono ?_
        rintro e W3 (⟨rfl, hJ3, hk3⟩ | ⟨rfl, hJx3⟩)
        · gi_wp2
          go_roundw
          case rel => exact ⟨k + 1, by omega, by go_num, by rw [HTS.out]; exact hJ3, (hBs.alloc (Nat.le_trans hnW hBs.size) _).trans hk3⟩
          case measure => simp [intOf]; omega
        · gi_wp2
          refine bodyPost_ret (results_none rfl _ _ _) rfl ?_
          exact ⟨⟨_, rfl⟩, .inr ⟨_, trivial, hJx3⟩⟩
      · obtain rfl : k = log.length := by omega
        gi_wp2
        go_end0
        exact ⟨⟨_, rfl⟩, .inl ⟨_, rfl, hJs⟩⟩

theorem log_in (n a : Nat) (w : World) :
    CallsIn Fence.wide n Try.prog 38 #[.pointer (some ⟨a, 0, none⟩)] w fun e w' => e = .returned (.func (.func 60) #[] #[.pointer (some ⟨w.heap.size, 0, none⟩)]) ∧ w' = w.alloc (.cells #[.pointer (some ⟨a, 0, none⟩)] 29) := by
  refine callsIn_of_wp Try.func38 rfl trivial ?_ rfl
  simp only [Try.ntmps38, List.size_toArray, List.length_cons, List.length_nil, Nat.reduceAdd, Nat.reduceSub, Array.replicate_succ, Array.replicate_zero, List.push_toArray, List.append_toArray, List.nil_append, List.cons_append]
  gi_wp2
  go_ret
  exact ⟨rfl, rfl⟩

theorem log_stops (n Bn n₀ a : Nat) (hn : 1 ≤ n) (lv : Value) (log : List Acc) (w : World) (hs : log.length ≤ 1000000) (hBn : Bn < w.heap.size) (hn₀ : n₀ ≤ w.heap.size) (ha : a < n₀) (hc : w.cell? ⟨Bn, 0, none⟩ = some (.pointer (some ⟨a, 0, none⟩))) (hA : w.cell? ⟨a, 1, none⟩ = some lv)
    (hL : (lv = .slice none 0 0 ∧ log = []) ∨ ∃ b cap, lv = .slice (some ⟨b, 0, none⟩) log.length cap ∧ log.length ≤ cap ∧ b < n₀ ∧ LogAt w b log) :
    SeqStopsK Fence.wide n Try.prog 60 #[.pointer (some ⟨Bn, 0, none⟩)] encAcc (Below n₀) (fun ys => ys = told log log.length) (fun _ => True) log.length w := fun l J Jx W hW hJ _ hY h0 =>
  log1_in n hn l Bn n₀ a lv log J Jx hY (fun pre W1 h o => hJ pre W1 _ none h (World.grownBy_alloc W1 o none) (fun r e => by cases e)) W hs (Nat.le_trans hn₀ hW.size) ((hW.cell (p := ⟨Bn, 0, none⟩) hBn).trans hc) ((hW.cell (p := ⟨a, 1, none⟩) (Nat.lt_of_lt_of_le ha hn₀)).trans hA) (hL.imp_right fun ⟨b, cap, e, hc, hb, h⟩ => ⟨b, cap, e, hc, hb, h.below hW (by omega)⟩) h0
end Go.Proofs.Ytdcikbhfoplkmaa.Ar
/- RingSteps: a new machine is put beside the others; a word poked into both arenas; the beginning; what the end asks. -/
namespace Go.Proofs.Ytdcikbhfoplkmaa.Dd
open Go Go.RowKit Go.Proofs.Ytdcikbhfoplkmaa.Hp Go.Proofs.Ytdcikbhfoplkmaa.PH Go.Proofs.Ytdcikbhfoplkmaa.Ar Go.Proofs.Ytdcikbhfoplkmaa.Eo
open Go.Proofs.YtdcikbhfoplkmaaW.PrintWords (Kd)
set_option linter.unusedVariables false
set_option linter.unusedSimpArgs false
set_option linter.unusedSectionVars false

theorem set3_get (arr : Array Value) (a b c : Nat) (x y z : Value) (ha : a < arr.size) (hb : b < arr.size) (hc : c < arr.size) (j : Nat) :
    (((arr.setIfInBounds a x).setIfInBounds b y).setIfInBounds c z)[j]? = if j = c then some z else if j = b then some y else if j = a then some x else arr[j]? := by
  by_cases e1 : j = c
  · subst e1; rw [if_pos rfl, Array.getElem?_setIfInBounds_self_of_lt (by simpa using hc)]
  · rw [if_neg e1, Array.getElem?_setIfInBounds_ne (fun e => e1 e.symm)]
    by_cases e2 : j = b
    · subst e2; rw [if_pos rfl, Array.getElem?_setIfInBounds_self_of_lt (by simpa using hb)]
    · rw [if_neg e2, Array.getElem?_setIfInBounds_ne (fun e => e2 e.symm)]
      by_cases e3 : j = a
      · subst e3; rw [if_pos rfl, Array.getElem?_setIfInBounds_self_of_lt ha]
      · rw [if_neg e3, Array.getElem?_setIfInBounds_ne (fun e => e3 e.symm)]
theorem set2_get (arr : Array Value) (a b : Nat) (x y : Value) (ha : a < arr.size) (hb : b < arr.size) (j : Nat) :
    ((arr.setIfInBounds a x).setIfInBounds b y)[j]? = if j = b then some y else if j = a then some x else arr[j]? := by
  by_cases e2 : j = b
  · subst e2; rw [if_pos rfl, Array.getElem?_setIfInBounds_self_of_lt (by simpa using hb)]
  · rw [if_neg e2, Array.getElem?_setIfInBounds_ne (fun e => e2 e.symm)]
    by_cases e3 : j = a
    · subst e3; rw [if_pos rfl, Array.getElem?_setIfInBounds_self_of_lt ha]
    · rw [if_neg e3, Array.getElem?_setIfInBounds_ne (fun e => e3 e.symm)]
section
variable {w0 w1 w w' : World} {f : Fx} {P T R t d : Nat} {s s' : AS} {O : Nat → Nat → Prop} {arr arr' : Array Value}
/-- Accesses beside all machines. -/
theorem Inv.move (h : Inv w0 w f P T R s O arr) (hd : Duo w0.heap.size w' f.a f.c s' [(f.p, 9, false)] f.am f.cc s' []) (hk : ArOk (Lay.cl P T R) s') (hb : Below w0.heap.size w w') (hF : Fr (TouchD f.c f.cc w) w w') : Inv w0 w' f P T R s' O arr := by
  have hF' : Fr (fun k => (fun _ => False) k ∨ TouchD f.c f.cc w k) w w' := hF.mono fun _ _ z => .inr z
  refine ⟨hd, hk, h.bel.trans hb, h.bx.fr h.duo hF' ⟨id, id, id, id⟩, h.siz, fun t ht => ?_, h.dis, fun i k hk => ⟨(h.rng i k hk).1, Nat.lt_of_lt_of_le (h.rng i k hk).2 hF.size⟩, ⟨h.low.1, h.low.2.1, h.low.2.2.1, h.low.2.2.2.1, Nat.le_trans h.low.2.2.2.2 hF.size⟩, h.base⟩
  obtain ⟨v0, v1, v2, v3, v4, q⟩ := h.part t ht
  exact ⟨v0, v1, v2, v3, v4, q.e0, q.e1, q.e2, q.e3, q.e4, q.sh.fr h.duo hF' (fun _ _ => id), q.mp.fr h.duo hF' (fun _ _ => id)⟩
set_option maxHeartbeats 1000000 in
theorem Inv.put (h1 : Inv w0 w1 f P T R s O arr) (hF : Fr (fun _ => False) w1 w) (ht : t < T) (hd : d ≤ 1) (hFs : Fr (fun k => k = f.sb) w w') (hsz : w'.heap.size = w.heap.size) (hsd : w'.heap[f.sb]? = some (.cells arr' 81 (0, 0))) (hsz2 : arr'.size = T * 5)
    (hot : ∀ t' i, t' < T → i < 5 → (t' ≠ t ∨ i % 2 ≠ d) → arr'[t' * 5 + i]? = arr[t' * 5 + i]?)
    (hS : d = 0 → ∃ x y z, arr'[t * 5]? = some x ∧ arr'[t * 5 + 2]? = some y ∧ arr'[t * 5 + 4]? = some z ∧ PsP w0.heap.size f.c f.cc P T R t w x y z (fun k => w1.heap.size ≤ k ∧ k < w.heap.size))
    (hM : d = 1 → ∃ x y, arr'[t * 5 + 1]? = some x ∧ arr'[t * 5 + 3]? = some y ∧ PoP w0.heap.size f.c f.cc P T R t w x y (fun k => w1.heap.size ≤ k ∧ k < w.heap.size)) :
    ∃ O', Inv w0 w' f P T R s O' arr' := by
  have h := h1.still hF
  have hlow := h.low
  have hlow1 := h1.low
  have hw1 := hF.size
  have hF' : Fr (fun k => k = f.sb ∨ TouchD f.c f.cc w k) w w' := hFs.mono fun k _ e => .inl e
  refine ⟨fun i k => O i k ∨ (i = 2 * t + d ∧ w1.heap.size ≤ k ∧ k < w.heap.size), h.duo.fr hFs (fun k _ e => by subst e; exact duo_nt h.duo h.bx.sd (by decide)), h.ok, Fr.toBelow h.bel h.bel.size hFs (fun k e => by rw [e]; exact h.base), ?_, hsz2, fun t' ht' => ?_, ?_, ?_, by rw [hsz]; exact hlow, h.base⟩
  · refine ⟨hsd, hFs.blk h.bx.qk (fun e => blk_ne h.bx.qk h.bx.sd (by decide) e), hFs.blk h.bx.dk (fun e => blk_ne h.bx.dk h.bx.sd (by decide) e), hFs.blk h.bx.rk (fun e => blk_ne h.bx.rk h.bx.sd (by decide) e)⟩
  · obtain ⟨v0, v1, v2, v3, v4, q⟩ := h.part t' ht'
    have oS : PsP w0.heap.size f.c f.cc P T R t' w' v0 v2 v4 (fun k => O (2 * t') k ∨ (2 * t' = 2 * t + d ∧ w1.heap.size ≤ k ∧ k < w.heap.size)) := (q.sh.fr h.duo hF' (fun k hk e => (h.far _).1 (e ▸ hk))).mono fun k hk => .inl hk
    have oM : PoP w0.heap.size f.c f.cc P T R t' w' v1 v3 (fun k => O (2 * t' + 1) k ∨ (2 * t' + 1 = 2 * t + d ∧ w1.heap.size ≤ k ∧ k < w.heap.size)) := (q.mp.fr h.duo hF' (fun k hk e => (h.far _).1 (e ▸ hk))).mono fun k hk => .inl hk
    have g : ∀ i v, i < 5 → (t' ≠ t ∨ i % 2 ≠ d) → arr[t' * 5 + i]? = some v → arr'[t' * 5 + i]? = some v := fun i v hi hn hv => (hot t' i ht' hi hn).trans hv
    by_cases et : t' = t
    · subst et
      obtain rfl | rfl : d = 0 ∨ d = 1 := by omega
      · obtain ⟨x, y, z, a1, a2, a3, a4⟩ := hS rfl
        exact ⟨x, v1, y, v3, z, a1, g 1 _ (by omega) (.inr (by decide)) q.e1, a2, g 3 _ (by omega) (.inr (by decide)) q.e3, a3, (a4.fr h.duo hF' (fun k hk e => by have := hk.1; omega)).mono fun k hk => .inr ⟨rfl, hk⟩, oM⟩
      · obtain ⟨x, y, a1, a2, a4⟩ := hM rfl
        exact ⟨v0, x, v2, y, v4, g 0 _ (by omega) (.inr (by decide)) q.e0, a1, g 2 _ (by omega) (.inr (by decide)) q.e2, a2, g 4 _ (by omega) (.inr (by decide)) q.e4, oS, (a4.fr h.duo hF' (fun k hk e => by have := hk.1; omega)).mono fun k hk => .inr ⟨rfl, hk⟩⟩
    · exact ⟨v0, v1, v2, v3, v4, g 0 _ (by omega) (.inl et) q.e0, g 1 _ (by omega) (.inl et) q.e1, g 2 _ (by omega) (.inl et) q.e2, g 3 _ (by omega) (.inl et) q.e3, g 4 _ (by omega) (.inl et) q.e4, oS, oM⟩
  · intro i j hne k h1' h2'
    rcases h1' with a1 | ⟨a1, a2, a3⟩ <;> rcases h2' with b1 | ⟨b1, b2, b3⟩
    · exact h.dis i j hne k a1 b1
    · have := (h1.rng _ _ a1).2; omega
    · have := (h1.rng _ _ b1).2; omega
    · exact hne (a1.trans b1.symm)
  · intro i k hk
    rw [hsz]
    rcases hk with a1 | ⟨a1, a2, a3⟩
    · exact h.rng _ _ a1
    · exact ⟨by omega, a3⟩
theorem Inv.putP {x y z : Value} (h1 : Inv w0 w1 f P T R s O arr) (hF : Fr (fun _ => False) w1 w) (ht : t < T) (hS : PsP w0.heap.size f.c f.cc P T R t w x y z (fun k => w1.heap.size ≤ k ∧ k < w.heap.size)) :
    ∃ O' arr', Inv w0 (((w.setCell ⟨f.sb, t * 5, none⟩ x).setCell ⟨f.sb, t * 5 + 2, none⟩ y).setCell ⟨f.sb, t * 5 + 4, none⟩ z) f P T R s O' arr' := by
  have h := h1.still hF
  have g := set3_get arr (t * 5) (t * 5 + 2) (t * 5 + 4) x y z (by rw [h.siz]; omega) (by rw [h.siz]; omega) (by rw [h.siz]; omega)
  obtain ⟨O', hi⟩ := h1.put hF ht (d := 0) (by decide) (arr' := ((arr.setIfInBounds (t * 5) x).setIfInBounds (t * 5 + 2) y).setIfInBounds (t * 5 + 4) z) ((((Fr.refl (fun k => k = f.sb) w).setCell ⟨f.sb, t * 5, none⟩ x (.inl rfl)).setCell ⟨f.sb, t * 5 + 2, none⟩ y (.inl rfl)).setCell ⟨f.sb, t * 5 + 4, none⟩ z (.inl rfl)) (by simp [World.setCell]) (Hp.blk_set (Hp.blk_set (Hp.blk_set h.bx.sd _ _) _ _) _ _)
    (by rw [Array.size_setIfInBounds, Array.size_setIfInBounds, Array.size_setIfInBounds]; exact h.siz) (fun t' i ht' hi hn => by rw [g, if_neg (by omega), if_neg (by omega), if_neg (by omega)])
    (fun _ => ⟨x, y, z, by rw [g, if_neg (by omega), if_neg (by omega), if_pos rfl], by rw [g, if_neg (by omega), if_pos rfl], by rw [g, if_pos rfl], hS⟩) (fun h => absurd h (by decide))
  exact ⟨O', _, hi⟩
theorem Inv.putO {x y : Value} (h1 : Inv w0 w1 f P T R s O arr) (hF : Fr (fun _ => False) w1 w) (ht : t < T) (hM : PoP w0.heap.size f.c f.cc P T R t w x y (fun k => w1.heap.size ≤ k ∧ k < w.heap.size)) :
    ∃ O' arr', Inv w0 ((w.setCell ⟨f.sb, t * 5 + 1, none⟩ x).setCell ⟨f.sb, t * 5 + 3, none⟩ y) f P T R s O' arr' := by
  have h := h1.still hF
  have g := set2_get arr (t * 5 + 1) (t * 5 + 3) x y (by rw [h.siz]; omega) (by rw [h.siz]; omega)
  obtain ⟨O', hi⟩ := h1.put hF ht (d := 1) (by decide) (arr' := (arr.setIfInBounds (t * 5 + 1) x).setIfInBounds (t * 5 + 3) y) (((Fr.refl (fun k => k = f.sb) w).setCell ⟨f.sb, t * 5 + 1, none⟩ x (.inl rfl)).setCell ⟨f.sb, t * 5 + 3, none⟩ y (.inl rfl)) (by simp [World.setCell]) (Hp.blk_set (Hp.blk_set h.bx.sd _ _) _ _)
    (by rw [Array.size_setIfInBounds, Array.size_setIfInBounds]; exact h.siz) (fun t' i ht' hi hn => by rw [g, if_neg (by omega), if_neg (by omega)])
    (fun h => absurd h (by decide)) (fun _ => ⟨x, y, by rw [g, if_neg (by omega), if_pos rfl], by rw [g, if_pos rfl], hM⟩)
  exact ⟨O', _, hi⟩
end
theorem tape_new {B c cc g : Nat} {w : World} (h : w.heap[g]? = some (.cells #[.slice none 0 0, .int .i64 0, .int .i64 0, .int .i64 0, .int .i64 0, .int .u64 0, .int .u64 0, .int .u64 0, .int .u64 0, .bool false] 85 (0, 0))) (hB : B ≤ g) : IsTp B w c cc g none 0 [] 0 ⟨0, 0, 0, 0, 0, 0, 0⟩ false :=
  ⟨h, World.ownsRow_nil _ _ _ _, fun k hk => by simp [Value.ownBlock] at hk, hB⟩
theorem tape_own {g k : Nat} (h : TpOwn g none 0 ([] : List Int).length k) : k = g := by
  rcases h with h | h
  · exact h
  · simp [Value.ownBlock] at h
theorem push_part {B c cc P T R t : Nat} {v : Int} {w w' : World} {m g : Nat} (hm : w.heap.size ≤ m) (h : IsPush w' m ⟨P, T, R, t, v, 0, 0, 0, false⟩) (hv : Wd v) (hB : B ≤ w.heap.size) (hg : w.heap.size ≤ g) (hb : w'.heap[g]? = some (.cells #[.slice none 0 0, .int .i64 0, .int .i64 0, .int .i64 0, .int .i64 0, .int .u64 0, .int .u64 0, .int .u64 0, .int .u64 0, .bool false] 85 (0, 0))) :
    PsP B c cc P T R t w' (.pointer (some ⟨m, 0, none⟩)) (.pointer (some ⟨g, 0, none⟩)) (.int .u64 v) (fun k => w.heap.size ≤ k ∧ k < w'.heap.size) :=
  .inr ⟨m, g, none, 0, [], 0, _, false, v, _, rfl, rfl, rfl, tape_new (c := c) (cc := cc) hb (Nat.le_trans hB hg), ⟨hm, blk_lt h⟩, fun k hk => by rw [tape_own hk]; exact ⟨hg, blk_lt hb⟩, h, by omega, hv, ⟨0, 0, .inl ⟨rfl, rfl⟩⟩⟩
theorem pop_part {B c cc P T R t : Nat} {w w' : World} {m g : Nat} (hm : w.heap.size ≤ m) (h : IsPop w' m ⟨P, T, R, t, 0, 0, 0, 0, false⟩) (hB : B ≤ w.heap.size) (hg : w.heap.size ≤ g) (hb : w'.heap[g]? = some (.cells #[.slice none 0 0, .int .i64 0, .int .i64 0, .int .i64 0, .int .i64 0, .int .u64 0, .int .u64 0, .int .u64 0, .int .u64 0, .bool false] 85 (0, 0))) :
    PoP B c cc P T R t w' (.pointer (some ⟨m, 0, none⟩)) (.pointer (some ⟨g, 0, none⟩)) (fun k => w.heap.size ≤ k ∧ k < w'.heap.size) :=
  .inr ⟨m, g, none, 0, [], 0, _, false, _, rfl, rfl, tape_new (c := c) (cc := cc) hb (Nat.le_trans hB hg), ⟨hm, blk_lt h⟩, fun k hk => by rw [tape_own hk]; exact ⟨hg, blk_lt hb⟩, h, by omega, ⟨0, 0, 0, .inl ⟨rfl, rfl⟩⟩⟩
/-- A word poked. -/
theorem arok_poked {n : Nat} {s : AS} (h : ArOk n s) (q : Nat) {v : Int} (hv : Wd v) : ArOk n (s.poked q v) := by
  refine ⟨fun p => ?_, ?_, h.nf, h.keep⟩
  · show 0 ≤ (s.cells.set (q : Int).toNat v).getD p 0 ∧ (s.cells.set (q : Int).toNat v).getD p 0 < _
    rw [Int.toNat_natCast, getD_set]
    split
    · exact hv
    · exact h.cw p
  · show (s.cells.set (q : Int).toNat v).length = n
    rw [List.length_set]; exact h.len
theorem Inv.poked {w0 w w1 : World} {f : Fx} {P T R : Nat} {s : AS} {O : Nat → Nat → Prop} {arr : Array Value} (h : Inv w0 w f P T R s O arr) {q : Nat} {v : Int} (hv : Wd v) (hD : DidD w0.heap.size w w1 f.a f.c (s.poked q v) [(f.p, 9, false)] f.am f.cc s []) :
    Inv w0 (w1.setCell ⟨f.cc, q, none⟩ (.int .u64 v)) f P T R (s.poked q v) O arr := by
  have h2 := hD.duo.setM (q : Int) v
  rw [Int.toNat_natCast] at h2
  exact h.move h2.duo (arok_poked h.ok q hv) (hD.bel.trans h2.bel) (hD.fr.then h2.fr (fun k hk z => td_back hD.fr hk z (fun _ => id)))
theorem infoSide : (Try.prog.info? 81).map (fun i => (i.zero, i.size, i.bytes)) = some (some (.agg #[.pointer none, .pointer none, .pointer none, .pointer none, .int .u64 0]), 5, 40) := by kernel_rfl
theorem own_full6 {B g n e k : Nat} {w : World} {xs : List Value} (h : w.ownsRow B e k (.slice (some ⟨g, 0, none⟩) n n) n xs) : w.heap[g]? = some (.cells xs.toArray e (0, 0)) := by
  rcases h.2 with ⟨h2, _⟩ | ⟨g', cap, cur, h2, _, h4, _, _, h5, h6⟩
  · simp at h2
  · simp only [Value.slice.injEq, Option.some.injEq, Addr.mk.injEq, and_true, true_and] at h2
    obtain ⟨rfl, rfl⟩ := h2
    rw [List.take_of_length_le (by rw [Array.length_toList, h5]; exact Nat.le_refl _)] at h6
    rw [h4, ← h6]
def side0 : Array Value := #[.pointer none, .pointer none, .pointer none, .pointer none, .int .u64 0]
theorem made_get (n j : Nat) (h : j < n) : (madeCells side0 n)[j]? = some (side0[j % 5]!) := by
  unfold madeCells
  rw [Array.getElem?_map, Array.getElem?_range, if_pos h]
  rfl
theorem Inv.start {w0 w : World} {f : Fx} {P T R : Nat} {s : AS} (hd : Duo w0.heap.size w f.a f.c s [(f.p, 9, false)] f.am f.cc s []) (hk : ArOk (Lay.cl P T R) s) (hb : Below w0.heap.size w0 w) (hx : Bx w f P T R (madeCells side0 (T * 5)))
    (hlow : f.sb < f.fb ∧ f.qb < f.fb ∧ f.db < f.fb ∧ f.rb < f.fb ∧ f.fb ≤ w.heap.size) (hbase : w0.heap.size ≤ f.sb) : Inv w0 w f P T R s (fun _ _ => False) (madeCells side0 (T * 5)) := by
  refine ⟨hd, hk, hb, hx, size_madeCells _ _, fun t ht => ?_, fun _ _ _ _ h => h.elim, fun _ _ h => h.elim, hlow, hbase⟩
  refine ⟨side0[(t * 5) % 5]!, side0[(t * 5 + 1) % 5]!, side0[(t * 5 + 2) % 5]!, side0[(t * 5 + 3) % 5]!, side0[(t * 5 + 4) % 5]!, made_get _ _ (by omega), made_get _ _ (by omega), made_get _ _ (by omega), made_get _ _ (by omega), made_get _ _ (by omega), .inl ?_, .inl ?_⟩
  · rw [show (t * 5) % 5 = 0 by omega]; rfl
  · rw [show (t * 5 + 1) % 5 = 1 by omega]; rfl
theorem arok_start {P T R : Nat} (hr : Lay.right P T R) : ArOk (Lay.cl P T R) ⟨List.replicate (Lay.cl P T R) 0, [], true, 0, 0⟩ := by
  refine ⟨fun q => ?_, List.length_replicate, rfl, rfl⟩
  show 0 ≤ (List.replicate (Lay.cl P T R) (0 : Int)).getD q 0 ∧ (List.replicate (Lay.cl P T R) (0 : Int)).getD q 0 < _
  rw [List.getD_eq_getElem?_getD, List.getElem?_replicate]
  split <;> simp
/-- Both arenas, beginning. -/
theorem sys_duo {B : Nat} {w : World} {a c m c2 N : Nat} {s : AS} {ps : List (Nat × Int × Bool)} (h : Ar.Sys B w a c s ps) (hm : w.heap[m]? = some (.cells #[.slice (some ⟨c2, 0, none⟩) N N, .slice none 0 0, .int .i64 0] 74 (0, 0)))
    (hc : w.heap[c2]? = some (.cells ((List.replicate N (0 : Int)).map (Value.int .u64)).toArray 24 (0, 0))) (hN : N ≤ 4096) (hcc : c ≠ c2) (hB : B ≤ m ∧ B ≤ c2) :
    Duo B w a c s ps m c2 ⟨List.replicate N 0, [], true, 0, 0⟩ [] := by
  obtain ⟨lv, hA⟩ := h.ar
  exact ⟨⟨lv, .slice none 0 0, hA, ⟨by simpa using hm, hc, World.ownsRow_nil _ _ _ _, by simpa using hN, rfl⟩, fun k _ => by simp [Value.ownBlock]⟩, hcc, ⟨h.base.1, h.base.2.1, h.base.2.2, hB⟩, h.pt, h.nd, fun x hx => (by cases hx), by simp⟩
def toS (x : Acc) : S83 := ⟨x.who, x.kind, x.at_, x.want, x.put, x.seen, x.left⟩
theorem c83_of_own {B : Nat} {w : World} {v : Value} {log : List Acc} (h : w.ownsRow B 83 7 v log.length (log.flatMap Acc.cells)) (hl : log.length ≤ 1000) :
    ∃ A cap, v = .slice A log.length cap ∧ log.length ≤ cap ∧ Kd.C k83 w A (log.map toS).length (log.map toS) := by
  rcases logAt_of h with ⟨rfl, rfl⟩ | ⟨b, cap, rfl, hc, hb, hL⟩
  · exact ⟨none, 0, rfl, Nat.le_refl _, ⟨rfl, by simp, fun h => absurd h (by simp)⟩⟩
  · refine ⟨_, cap, rfl, hc, ⟨rfl, by simp; omega, fun _ => ⟨_, rfl, fun j p hp => ?_⟩⟩⟩
    rw [List.getElem?_map] at hp
    obtain ⟨x, hx, rfl⟩ := Option.map_eq_some_iff.1 hp
    obtain ⟨a0, a1, a2, a3, a4, a5, a6⟩ := hL j x hx
    refine ⟨_, rfl, k83_mk w (toS x), fun i u hu => ?_⟩
    have e2 : ∀ i, ((⟨b, 0, none⟩ : Addr).add (j * k83.sz + i)) = ⟨b, j * 7 + i, none⟩ := by
      intro i
      show Addr.add _ (j * 7 + i) = _
      unfold Addr.add
      split
      · rename_i h0
        rw [h0]
      · simp
    rw [e2]
    match i, hu with
    | 0, hu => have : Value.int .i64 x.who = u := by simpa [toS] using hu
               rw [← this]; exact a0
    | 1, hu => have : Value.int .i64 x.kind = u := by simpa [toS] using hu
               rw [← this]; exact a1
    | 2, hu => have : Value.int .i64 x.at_ = u := by simpa [toS] using hu
               rw [← this]; exact a2
    | 3, hu => have : Value.int .u64 x.want = u := by simpa [toS] using hu
               rw [← this]; exact a3
    | 4, hu => have : Value.int .u64 x.put = u := by simpa [toS] using hu
               rw [← this]; exact a4
    | 5, hu => have : Value.int .u64 x.seen = u := by simpa [toS] using hu
               rw [← this]; exact a5
    | 6, hu => have : Value.int .u64 x.left = u := by simpa [toS] using hu
               rw [← this]; exact a6
    | i + 7, hu => simp at hu
theorem log_same (l : List S83) (hl : l.length ≤ 1000) : ∃ k, windrowref03_SameLog.f k l l = some true := by
  have h : ∀ (d i : Nat), d = l.length - i → i ≤ l.length → windrowref03_SameLog.l0 (d + 1) l l (i : Int) = some true := by
    intro d
    induction d with
    | zero =>
      intro i hd hi
      simp only [windrowref03_SameLog.l0]
      rw [if_neg (by omega)]
    | succ d ih =>
      intro i hd hi
      rw [windrowref03_SameLog.l0, if_pos (by omega), if_pos (by omega), if_pos (by omega), if_neg (by simp), show wrap64 ((i : Int) + 1) = ((i + 1 : Nat) : Int) by unfold wrap64; omega]
      exact ih (i + 1) (by omega) (by omega)
  refine ⟨l.length + 1, ?_⟩
  unfold windrowref03_SameLog.f
  rw [if_pos rfl]
  exact h l.length 0 (by omega) (by omega)
end Go.Proofs.Ytdcikbhfoplkmaa.Dd

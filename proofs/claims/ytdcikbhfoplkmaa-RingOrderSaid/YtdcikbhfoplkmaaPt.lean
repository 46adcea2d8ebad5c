/- A step of the side that puts. -/
import Derived.Test.YtdcikbhfoplkmaaTk
namespace Go.Proofs.Ytdcikbhfoplkmaa.Ar
open Go Go.RowKit Go.Proofs.Ytdcikbhfoplkmaa.Hp Go.Proofs.Ytdcikbhfoplkmaa.PH
set_option linter.unusedVariables false
set_option linter.unusedSimpArgs false

/-- Each pop is as it was. -/
def KeptO (w w' : World) : Prop := ∀ m z, IsPop w m z → IsPop w' m z
theorem KeptO.fr {S : Nat → Prop} {B a cc : Nat} {w0 w w' : World} {s : AS} {ps : List (Nat × Int × Bool)} (h : KeptO w0 w) (hF : Fr S w w') (hs : Sys B w a cc s ps) (hS : ∀ m z, IsPop w m z → S m → Touch cc w m) : KeptO w0 w' := fun m z hm => by
  have h1 := h m z hm
  exact hF.blk h1 (fun z2 => not_touch h1 (blk_ne h1 (sys_cel hs) (by decide)) (by decide) (hS m z h1 z2))
theorem KeptO.below {w0 w w' : World} (h : KeptO w0 w) (hb : Below w.heap.size w w') : KeptO w0 w' := fun m z hm => blk_below (h m z hm) hb
theorem KeptO.set {w0 w : World} {x : Nat} {cs : Array Value} (h : KeptO w0 w) (hx : w.heap[x]? = some (.cells cs 50 (0, 0))) (j : Nat) (u : Value) : KeptO w0 (w.setCell ⟨x, j, none⟩ u) := fun m z hm => Hp.blk_far (h m z hm) _ (blk_ne (h m z hm) hx (by decide)) u
theorem KeptO.row {B n : Nat} {w0 w w' : World} {v : Value} {xs : List Value} (h : KeptO w0 w) (hr : w.ownsRow B 24 1 v n xs) (hF : Fr (fun k => v.ownBlock = some k) w w') : KeptO w0 w' := fun m z hm => hF.blk (h m z hm) (fun hk => row_ne hr (h m z hm) (by decide) m hk rfl)
/-- What a step of the side that puts leaves. -/
def AfterP (B : Nat) (w : World) (a cc : Nat) (s' : AS) (psF : List (Nat × Int × Bool)) (x p c : Nat) (po : Option Nat) (next : Int) (put taken : List Int) (ok : Bool) (vt : Value) (y' : PS) (ov : Bool) (w' : World) : Prop :=
  (∃ pu' vp', IsQ B w' x p c cc pu' po (if ov = true ∧ y'.full = false then IntKind.u64.wrap (next + 1) else next) (if ov = true ∧ y'.full = false then put ++ [next] else put) taken ok vp' vt ∧ ((ov = true ∧ pu' = none) ∨ (ov = false ∧ ∃ m, pu' = some m ∧ B ≤ m ∧ IsPush w' m y'))) ∧ Sys B w' a cc s' psF ∧ Below B w w' ∧ KeptO w w'

set_option maxHeartbeats 4000000 in
set_option maxRecDepth 100000 in
theorem puts_nil {B : Nat} {w : World} {a cc : Nat} {s : AS} {ps : List (Nat × Int × Bool)} {x p c : Nat} {po : Option Nat} {next : Int} {put taken : List Int} {ok : Bool} {vp vt : Value} {who : Int} {g : Bool} {P T R : Int} 
    (hs : Sys B w a cc s ps) (i : Nat) (hi : ps[i]? = some (p, who, g)) (hq : IsQ B w x p c cc none po next put taken ok vp vt) (y y' : PS) (s' : AS) (psF : List (Nat × Int × Bool)) (ov : Bool)
    (hy : y = ⟨P, T, R, 0, next, 0, 0, 0, false⟩)
    (hr : ring_right.f P T R 0 = some true) (hnx : next ≠ 0) (hlen : put.length ≤ 100000)
    (hstep : ∀ (wx : World) (m : Nat), B ≤ m → Sys B wx a cc s (ps.set i (p, who, true)) → IsPush wx m y →
      Calls Try.prog 24 #[.pointer (some ⟨m, 0, none⟩), .pointer (some ⟨p, 0, none⟩)] wx fun e w' => e = .returned (.bool ov) ∧ IsPush w' m y' ∧ Sys B w' a cc s' psF ∧ Below B wx w' ∧ Fr (fun k => k = m ∨ Touch cc wx k) wx w') :
    Calls Try.prog 19 #[.pointer (some ⟨x, 0, none⟩), .agg #[.int .i64 P, .int .i64 T, .int .i64 R]] w fun e w' => e = .returned (.tuple #[]) ∧ AfterP B w a cc s' psF x p c po next put taken ok vt y' ov w' := by
  have HS := Lib.hid (hs.alloc (.cells #[.int .i64 P, .int .i64 T, .int .i64 R] 23))
  have HI := Lib.hid hi
  have HQ := Lib.hid (hq.below ((Below.refl _ w).alloc (Nat.le_refl _) (.cells #[.int .i64 P, .int .i64 T, .int .i64 R] 23)))
  have KB : Hid ((w.alloc (.cells #[.int .i64 P, .int .i64 T, .int .i64 R] 23)).heap[w.heap.size]? = some (.cells #[.int .i64 P, .int .i64 T, .int .i64 R] 23 (0, 0))) := Lib.hid (Hp.blk_new w _)
  have HB := Lib.hid ((Below.refl B w).alloc hs.base.1 (.cells #[.int .i64 P, .int .i64 T, .int .i64 R] 23))
  have HK : Hid (KeptO w (w.alloc (.cells #[.int .i64 P, .int .i64 T, .int .i64 R] 23))) := Lib.hid (fun m z h => Hp.blk_alloc h _)
  have HR := Lib.hid hr
  have HL := Lib.hid hlen
  have HST := Lib.hid hstep
  have HNX := Lib.hid hnx
  clear hs hi hq hr hlen hstep hnx
  obtain ⟨c0, -⟩ := Hp.blk_cell KB.out 0 rfl
  obtain ⟨c1, -⟩ := Hp.blk_cell KB.out 1 rfl
  obtain ⟨c2, -⟩ := Hp.blk_cell KB.out 2 rfl
  go_enter Try.func19, Try.ntmps19
  obtain ⟨x0, -⟩ := Hp.blk_cell HQ.out.blk 0 rfl
  obtain ⟨x1, -⟩ := Hp.blk_cell HQ.out.blk 1 rfl
  obtain ⟨x2, f2⟩ := Hp.blk_cell HQ.out.blk 2 (v := .pointer (none)) rfl
  obtain ⟨x3, -⟩ := Hp.blk_cell HQ.out.blk 3 rfl
  obtain ⟨x4, f4⟩ := Hp.blk_cell HQ.out.blk 4 rfl
  obtain ⟨x5, f5⟩ := Hp.blk_cell HQ.out.blk 5 rfl
  obtain ⟨x6, -⟩ := Hp.blk_cell HQ.out.blk 6 rfl
  obtain ⟨x7, -⟩ := Hp.blk_cell HQ.out.blk 7 rfl
  subst hy
  go_upto_region 2 with (fail)
  clear x0 x1 x2 x3 x4 x5 x6 x7 f2 f4 f5 c0 c1 c2
  have HS1 := Lib.hid (HS.out.still (w' := (w.alloc (.cells #[.int .i64 P, .int .i64 T, .int .i64 R] 23)).drew) ((Fr.refl _ _).drew))
  replace HB := Lib.hid HB.out.drew
  have HQ1 : Hid (IsQ B (w.alloc (.cells #[.int .i64 P, .int .i64 T, .int .i64 R] 23)).drew x p c cc none po next put taken ok vp vt) := Lib.hid (HQ.out.fr ((Fr.refl (fun _ => False) _).drew) id (fun _ _ => id) (fun _ _ => id))
  have HK1 : Hid (KeptO w (w.alloc (.cells #[.int .i64 P, .int .i64 T, .int .i64 R] 23)).drew) := Lib.hid HK.out
  clear HS HQ HK
  refine Rg.Upto.start (fun w' => ((∃ u, w'.heap[x]? = some (.cells #[.pointer (some ⟨p, 0, none⟩), .pointer (some ⟨c, 0, none⟩), pv u, pv po, .int .u64 next, vp, vt, .bool ok] 50 (0, 0))) ∧ w'.heap[w.heap.size]? = some (.cells #[.int .i64 P, .int .i64 T, .int .i64 R] 23 (0, 0)))) 1000 (by kernel_rfl) ⟨⟨none, HQ1.out.blk⟩, KB.out⟩ (fun HSC => ?_)
  clear KB
  refine Rg.Upto.takeA (i := 0) (v := ?_) rfl (by kernel_rfl) (by kernel_rfl) (by kernel_rfl) (of_decide_eq_true (by kernel_rfl)) (fun _ _ _ h => h) (by rfl) (fun w5 hS5 => ?_) HSC ?_
  rotate_left
  · obtain ⟨⟨u, h1⟩, h2⟩ := hS5
    clear h1 h2
    go_simp
    try rfl
  try simp only [Act.put, List.setIfInBounds_toArray, List.set_cons_zero, List.set_cons_succ]
  refine Rg.Upto.takeA (i := 1) (v := ?_) rfl (by kernel_rfl) (by kernel_rfl) (by kernel_rfl) (of_decide_eq_true (by kernel_rfl)) (fun _ _ _ h => h) (by rfl) (fun w5 hS5 => ?_) HSC ?_
  rotate_left
  · obtain ⟨⟨u, h1⟩, h2⟩ := hS5
    have c0 := (Hp.blk_cell h2 0 rfl).1
    have c1 := (Hp.blk_cell h2 1 rfl).1
    have c2 := (Hp.blk_cell h2 2 rfl).1
    clear h1 h2
    go_simp
    try rfl
  try simp only [Act.put, List.setIfInBounds_toArray, List.set_cons_zero, List.set_cons_succ]
  refine Rg.Upto.takeA (i := 3) (v := ?_) rfl (by kernel_rfl) (by kernel_rfl) (by kernel_rfl) (of_decide_eq_true (by kernel_rfl)) (fun _ _ _ h => h) (by rfl) (fun w5 hS5 => ?_) HSC ?_
  rotate_left
  · obtain ⟨⟨u, h1⟩, h2⟩ := hS5
    clear h1 h2
    go_simp
    try rfl
  try simp only [Act.put, List.setIfInBounds_toArray, List.set_cons_zero, List.set_cons_succ]
  refine Rg.Upto.takeA (i := 4) (v := ?_) rfl (by kernel_rfl) (by kernel_rfl) (by kernel_rfl) (of_decide_eq_true (by kernel_rfl)) (fun _ _ _ h => h) (by rfl) (fun w5 hS5 => ?_) HSC ?_
  rotate_left
  · obtain ⟨⟨u, h1⟩, h2⟩ := hS5
    clear h1 h2
    go_simp
    try rfl
  try simp only [Act.put, List.setIfInBounds_toArray, List.set_cons_zero, List.set_cons_succ]
  refine Rg.Upto.takeA (i := 5) (v := ?_) rfl (by kernel_rfl) (by kernel_rfl) (by kernel_rfl) (of_decide_eq_true (by kernel_rfl)) (fun _ _ _ h => h) (by rfl) (fun w5 hS5 => ?_) HSC ?_
  rotate_left
  · obtain ⟨⟨u, h1⟩, h2⟩ := hS5
    clear h1 h2
    go_simp
    try rfl
  try simp only [Act.put, List.setIfInBounds_toArray, List.set_cons_zero, List.set_cons_succ]
  refine Rg.Upto.takeA (i := 6) (v := ?_) rfl (by kernel_rfl) (by kernel_rfl) (by kernel_rfl) (of_decide_eq_true (by kernel_rfl)) (fun _ _ _ h => h) (by rfl) (fun w5 hS5 => ?_) HSC ?_
  rotate_left
  · obtain ⟨⟨u, h1⟩, h2⟩ := hS5
    have x4 := (Hp.blk_cell h1 4 rfl).1
    clear h1 h2
    go_simp
    try rfl
  try simp only [Act.put, List.setIfInBounds_toArray, List.set_cons_zero, List.set_cons_succ]
  refine Rg.Upto.one (i := 2) rfl (by kernel_rfl) (by rfl) (fun KK hK => ?_)
  go_simp
  (with_reducible refine (windrowlaw07_plan.calls P T R P T R _ rfl).mono ?_)
  rintro e w5 ⟨rfl, hb⟩

  replace HB := Lib.hid (HB.out.trans (hb.mono HS1.out.base.1))
  replace HS1 := Lib.hid (HS1.out.below hb)
  replace HQ1 := Lib.hid (HQ1.out.below hb)
  replace HK1 := Lib.hid (HK1.out.below hb)
  have HSC2 : ((∃ u, w5.heap[x]? = some (.cells #[.pointer (some ⟨p, 0, none⟩), .pointer (some ⟨c, 0, none⟩), pv u, pv po, .int .u64 next, vp, vt, .bool ok] 50 (0, 0))) ∧ w5.heap[w.heap.size]? = some (.cells #[.int .i64 P, .int .i64 T, .int .i64 R] 23 (0, 0))) := ⟨⟨none, HQ1.out.blk⟩, blk_below HSC.2 hb⟩
  refine hK.out _ _ HSC2 ?_
  clear hK KK hb HSC
  have HSC := HSC2
  clear HSC2
  try simp only [Act.put, List.setIfInBounds_toArray, List.set_cons_zero, List.set_cons_succ]
  refine Rg.Upto.one (i := 7) rfl (by kernel_rfl) (by rfl) (fun KK hK => ?_)
  go_simp
  (with_reducible refine (newPush_yes _ P T R 0 next HR.out HNX.out).mono ?_)
  rintro e w10 ⟨m, rfl, hmz, hX, hb⟩
  have HBM := Lib.hid (Nat.le_trans HS1.out.base.1 hmz)
  have HM := Lib.hid hX
  clear hmz hX
  replace HB := Lib.hid (HB.out.trans (hb.mono HS1.out.base.1))
  replace HS1 := Lib.hid (HS1.out.below hb)
  replace HQ1 := Lib.hid (HQ1.out.below hb)
  replace HK1 := Lib.hid (HK1.out.below hb)
  have HSC2 : ((∃ u, w10.heap[x]? = some (.cells #[.pointer (some ⟨p, 0, none⟩), .pointer (some ⟨c, 0, none⟩), pv u, pv po, .int .u64 next, vp, vt, .bool ok] 50 (0, 0))) ∧ w10.heap[w.heap.size]? = some (.cells #[.int .i64 P, .int .i64 T, .int .i64 R] 23 (0, 0))) := ⟨⟨none, HQ1.out.blk⟩, blk_below HSC.2 hb⟩
  refine hK.out _ _ HSC2 ?_
  clear hK KK hb HSC
  have HSC := HSC2
  clear HSC2
  try simp only [Act.put, List.setIfInBounds_toArray, List.set_cons_zero, List.set_cons_succ]
  refine Rg.Upto.one (i := 8) rfl (by kernel_rfl) (by rfl) (fun KK hK => ?_)
  go_simp
  refine hK.out _ _ HSC ?_
  clear hK KK
  try simp only [Act.put, List.setIfInBounds_toArray, List.set_cons_zero, List.set_cons_succ]
  refine Rg.Upto.takeA (i := 9) (v := ?_) rfl (by kernel_rfl) (by kernel_rfl) (by kernel_rfl) (of_decide_eq_true (by kernel_rfl)) (fun _ _ _ h => h) (by rfl) (fun w5 hS5 => ?_) HSC ?_
  rotate_left
  · obtain ⟨⟨u, h1⟩, h2⟩ := hS5
    clear h1 h2
    go_simp
    try rfl
  try simp only [Act.put, List.setIfInBounds_toArray, List.set_cons_zero, List.set_cons_succ]
  refine Rg.Upto.takeA (i := 10) (v := ?_) rfl (by kernel_rfl) (by kernel_rfl) (by kernel_rfl) (of_decide_eq_true (by kernel_rfl)) (fun _ _ _ h => h) (by rfl) (fun w5 hS5 => ?_) HSC ?_
  rotate_left
  · obtain ⟨⟨u, h1⟩, h2⟩ := hS5
    clear h1 h2
    go_simp
    try rfl
  try simp only [Act.put, List.setIfInBounds_toArray, List.set_cons_zero, List.set_cons_succ]
  refine Rg.Upto.one (i := 11) rfl (by kernel_rfl) (by rfl) (fun KK hK => ?_)
  go_simp
  refine hK.out _ _ HSC ?_
  clear hK KK
  try simp only [Act.put, List.setIfInBounds_toArray, List.set_cons_zero, List.set_cons_succ]
  refine Rg.Upto.one (i := 12) rfl (by kernel_rfl) (by rfl) (fun KK hK => ?_)
  go_simp
  refine hK.out _ _ HSC ?_
  clear hK KK
  try simp only [Act.put, List.setIfInBounds_toArray, List.set_cons_zero, List.set_cons_succ]
  obtain ⟨x2, f2⟩ := Hp.blk_cell HQ1.out.blk 2 (v := .pointer none) rfl
  have HSC3 : ((∃ u, (w10.setCell ⟨x, 2, none⟩ (pv (some m))).heap[x]? = some (.cells #[.pointer (some ⟨p, 0, none⟩), .pointer (some ⟨c, 0, none⟩), pv u, pv po, .int .u64 next, vp, vt, .bool ok] 50 (0, 0))) ∧ (w10.setCell ⟨x, 2, none⟩ (pv (some m))).heap[w.heap.size]? = some (.cells #[.int .i64 P, .int .i64 T, .int .i64 R] 23 (0, 0))) := ⟨⟨some m, (HQ1.out.push (some m)).blk⟩, Hp.blk_far HSC.2 _ (blk_ne HSC.2 HQ1.out.blk (by decide)) _⟩
  refine Rg.Upto.one (i := 13) rfl (by kernel_rfl) (by rfl) (fun KK hK => ?_)
  go_simp
  refine hK.out _ _ HSC3 ?_
  clear hK KK HSC HSC3 x2 f2
  try simp only [Act.put, List.setIfInBounds_toArray, List.set_cons_zero, List.set_cons_succ]
  refine Rg.Upto.done (by kernel_rfl) ?_
  have HM2 : Hid (IsPush (w10.setCell ⟨x, 2, none⟩ (pv (some m))) m ⟨P, T, R, 0, next, 0, 0, 0, false⟩) := Lib.hid (Hp.blk_far HM.out _ (blk_ne HM.out HQ1.out.blk (by decide)) _)
  have hS2 := HS1.out.other (not_touch HQ1.out.blk HQ1.out.nx (by decide)) 2 (pv (some m))
  have hK2 := HK1.out.set HQ1.out.blk 2 (pv (some m))
  have hB2 := HB.out.setCell (p := ⟨x, 2, none⟩) HQ1.out.bx (pv (some m))
  have HQ := Lib.hid (HQ1.out.push (some m))
  have HS := Lib.hid hS2
  have HK := Lib.hid hK2
  replace HB := Lib.hid hB2
  clear hS2 hK2 hB2 HM HQ1 HS1 HK1
  have HM := HM2
  clear HM2
  unfold pv at HM HS HQ HK HB
  simp only [Option.map] at HM HS HQ HK HB
  generalize (w10.setCell ⟨x, 2, none⟩ (.pointer (some ⟨m, 0, none⟩))) = wq at HM HS HQ HK HB ⊢
  obtain ⟨x0, -⟩ := Hp.blk_cell HQ.out.blk 0 rfl
  obtain ⟨x1, -⟩ := Hp.blk_cell HQ.out.blk 1 rfl
  obtain ⟨x2, f2⟩ := Hp.blk_cell HQ.out.blk 2 (v := .pointer (some ⟨m, 0, none⟩)) rfl
  obtain ⟨x3, -⟩ := Hp.blk_cell HQ.out.blk 3 rfl
  obtain ⟨x4, f4⟩ := Hp.blk_cell HQ.out.blk 4 rfl
  obtain ⟨x5, f5⟩ := Hp.blk_cell HQ.out.blk 5 rfl
  obtain ⟨x6, -⟩ := Hp.blk_cell HQ.out.blk 6 rfl
  obtain ⟨x7, -⟩ := Hp.blk_cell HQ.out.blk 7 rfl
  go_upto_region 4 with ((go_at_call 43; ((have hm := HS.out.grant i HI.out); (with_reducible refine hm.mono ?_); clear hm; rintro e w2 ⟨rfl, hD⟩; clear x0 x1 x2 x3 x4 x5 x6 x7 f2 f4 f5; replace HM := Lib.hid (hD.fr.blk HM.out (not_touch HM.out (blk_ne HM.out (sys_cel HS.out) (by decide)) (by decide))); replace HQ := Lib.hid (HQ.out.touch hD.fr); replace HK := Lib.hid (HK.out.fr hD.fr HS.out (fun _ _ _ z => z)); (have HS2 := Lib.hid hD.sys); replace HB := Lib.hid (HB.out.trans hD.bel); clear hD HS)))
  have HS1 := Lib.hid (HS2.out.still (w' := w2.drew) ((Fr.refl _ _).drew))
  replace HB := Lib.hid HB.out.drew
  have HM1 : Hid (IsPush w2.drew m ⟨P, T, R, 0, next, 0, 0, 0, false⟩) := Lib.hid HM.out
  have HQ1 : Hid (IsQ B w2.drew x p c cc (some m) po next put taken ok vp vt) := Lib.hid (HQ.out.fr ((Fr.refl (fun _ => False) _).drew) id (fun _ _ => id) (fun _ _ => id))
  have HK1 : Hid (KeptO w w2.drew) := Lib.hid HK.out
  clear HS2 HQ HK HM
  refine Rg.Upto.start (fun w' => w'.heap[x]? = some (.cells #[.pointer (some ⟨p, 0, none⟩), .pointer (some ⟨c, 0, none⟩), pv (some m), pv po, .int .u64 next, vp, vt, .bool ok] 50 (0, 0))) 1000 (by kernel_rfl) HQ1.out.blk (fun HSC => ?_)
  refine Rg.Upto.takeA (i := 0) (v := ?_) rfl (by kernel_rfl) (by kernel_rfl) (by kernel_rfl) (of_decide_eq_true (by kernel_rfl)) (fun _ _ _ h => h) (by rfl) (fun w5 hS5 => ?_) HSC ?_
  rotate_left
  · clear hS5
    go_simp
    try rfl
  try simp only [Act.put, List.setIfInBounds_toArray, List.set_cons_zero, List.set_cons_succ]
  refine Rg.Upto.takeA (i := 1) (v := ?_) rfl (by kernel_rfl) (by kernel_rfl) (by kernel_rfl) (of_decide_eq_true (by kernel_rfl)) (fun _ _ _ h => h) (by rfl) (fun w5 hS5 => ?_) HSC ?_
  rotate_left
  · clear hS5
    go_simp
    try rfl
  try simp only [Act.put, List.setIfInBounds_toArray, List.set_cons_zero, List.set_cons_succ]
  refine Rg.Upto.takeA (i := 2) (v := ?_) rfl (by kernel_rfl) (by kernel_rfl) (by kernel_rfl) (of_decide_eq_true (by kernel_rfl)) (fun _ _ _ h => h) (by rfl) (fun w5 hS5 => ?_) HSC ?_
  rotate_left
  · clear hS5
    go_simp
    try rfl
  try simp only [Act.put, List.setIfInBounds_toArray, List.set_cons_zero, List.set_cons_succ]
  refine Rg.Upto.takeA (i := 3) (v := ?_) rfl (by kernel_rfl) (by kernel_rfl) (by kernel_rfl) (of_decide_eq_true (by kernel_rfl)) (fun _ _ _ h => h) (by rfl) (fun w5 hS5 => ?_) HSC ?_
  rotate_left
  · have x2 := (Hp.blk_cell hS5 2 (v := .pointer (some ⟨m, 0, none⟩)) rfl).1
    have x0 := (Hp.blk_cell hS5 0 rfl).1
    clear hS5
    go_simp
    try rfl
  try simp only [Act.put, List.setIfInBounds_toArray, List.set_cons_zero, List.set_cons_succ]
  refine Rg.Upto.takeA (i := 4) (v := ?_) rfl (by kernel_rfl) (by kernel_rfl) (by kernel_rfl) (of_decide_eq_true (by kernel_rfl)) (fun _ _ _ h => h) (by rfl) (fun w5 hS5 => ?_) HSC ?_
  rotate_left
  · clear hS5
    go_simp
    try rfl
  try simp only [Act.put, List.setIfInBounds_toArray, List.set_cons_zero, List.set_cons_succ]
  refine Rg.Upto.takeA (i := 5) (v := ?_) rfl (by kernel_rfl) (by kernel_rfl) (by kernel_rfl) (of_decide_eq_true (by kernel_rfl)) (fun _ _ _ h => h) (by rfl) (fun w5 hS5 => ?_) HSC ?_
  rotate_left
  · clear hS5
    go_simp
    try rfl
  try simp only [Act.put, List.setIfInBounds_toArray, List.set_cons_zero, List.set_cons_succ]
  refine Rg.Upto.takeA (i := 6) (v := ?_) rfl (by kernel_rfl) (by kernel_rfl) (by kernel_rfl) (of_decide_eq_true (by kernel_rfl)) (fun _ _ _ h => h) (by rfl) (fun w5 hS5 => ?_) HSC ?_
  rotate_left
  · clear hS5
    go_simp
    try rfl
  try simp only [Act.put, List.setIfInBounds_toArray, List.set_cons_zero, List.set_cons_succ]
  refine Rg.Upto.takeA (i := 7) (v := ?_) rfl (by kernel_rfl) (by kernel_rfl) (by kernel_rfl) (of_decide_eq_true (by kernel_rfl)) (fun _ _ _ h => h) (by rfl) (fun w5 hS5 => ?_) HSC ?_
  rotate_left
  · have x2 := (Hp.blk_cell hS5 2 (v := .pointer (some ⟨m, 0, none⟩)) rfl).1
    have x0 := (Hp.blk_cell hS5 0 rfl).1
    clear hS5
    go_simp
    try rfl
  try simp only [Act.put, List.setIfInBounds_toArray, List.set_cons_zero, List.set_cons_succ]
  refine Rg.Upto.one (i := 8) rfl (by kernel_rfl) (by rfl) (fun KK hK => ?_)
  go_simp
  have hm := HST.out _ m HBM.out HS1.out HM1.out
  (with_reducible refine hm.mono ?_)
  clear hm
  rintro e w3 ⟨rfl, hX, hS, hb, hF⟩
  have HQ := Lib.hid (HQ1.out.step HM1.out (by decide) hF)
  have HK := Lib.hid (HK1.out.fr hF HS1.out (fun m2 z h1 h2 => by
    rcases h2 with h2 | h2
    · exact absurd h2 (blk_ne h1 HM1.out (by decide))
    · exact h2))
  have HM := Lib.hid hX
  have HS := Lib.hid hS
  replace HB := Lib.hid (HB.out.trans hb)
  clear HQ1 HK1 HM1 HS1 hX hS hb hF HSC
  refine hK.out _ _ HQ.out.blk ?_
  clear hK KK
  try simp only [Act.put, List.setIfInBounds_toArray, List.set_cons_zero, List.set_cons_succ]
  refine Rg.Upto.done (by kernel_rfl) ?_
  cases ov with
  | false =>
    go_wp2_with (fail)
    go_end0
    exact ⟨rfl, ⟨some m, vp, by rw [if_neg (by simp), if_neg (by simp)]; exact HQ.out, .inr ⟨rfl, m, rfl, HBM.out, HM.out⟩⟩, HS.out, HB.out, HK.out⟩
  | true =>
    obtain ⟨x0, -⟩ := Hp.blk_cell HQ.out.blk 0 rfl
    obtain ⟨x1, -⟩ := Hp.blk_cell HQ.out.blk 1 rfl
    obtain ⟨x2, f2⟩ := Hp.blk_cell HQ.out.blk 2 (v := .pointer (some ⟨m, 0, none⟩)) rfl
    obtain ⟨x3, -⟩ := Hp.blk_cell HQ.out.blk 3 rfl
    obtain ⟨x4, f4⟩ := Hp.blk_cell HQ.out.blk 4 rfl
    obtain ⟨x5, f5⟩ := Hp.blk_cell HQ.out.blk 5 rfl
    obtain ⟨x6, -⟩ := Hp.blk_cell HQ.out.blk 6 rfl
    obtain ⟨x7, -⟩ := Hp.blk_cell HQ.out.blk 7 rfl
    rcases Bool.eq_false_or_eq_true y'.full with he | he
    · have HE : Hid (Calls Try.prog 17 #[.pointer (some ⟨m, 0, none⟩)] w3 fun e w' => e = .returned (.bool true) ∧ w' = w3) := Lib.hid (by have := push_full w3 m y' HM.out; rw [he] at this; exact this)
      have HEE := Lib.hid he
      clear he
      go_wp2_with (first
        | (go_at_call 17; ((with_reducible refine HE.out.mono ?_); rintro e w9 ⟨rfl, hw⟩; obtain rfl := hw.symm)))
      go_end0
      have hq2 := HQ.out.push none
      refine ⟨rfl, ⟨none, vp, by rw [if_neg (by rw [HEE.out]; simp), if_neg (by rw [HEE.out]; simp)]; exact hq2, .inl ⟨rfl, rfl⟩⟩, HS.out.other (not_touch HQ.out.blk HQ.out.nx (by decide)) 2 _, HB.out.setCell (p := ⟨x, 2, none⟩) HQ.out.bx _, HK.out.set HQ.out.blk 2 _⟩
    · have HE : Hid (Calls Try.prog 17 #[.pointer (some ⟨m, 0, none⟩)] w3 fun e w' => e = .returned (.bool false) ∧ w' = w3) := Lib.hid (by have := push_full w3 m y' HM.out; rw [he] at this; exact this)
      have HEE := Lib.hid he
      clear he
      go_upto_region 6 with (first
        | (go_at_call 17; ((with_reducible refine HE.out.mono ?_); rintro e w9 ⟨rfl, hw⟩; obtain rfl := hw.symm)))
      clear x0 x1 x2 x3 x4 x5 x6 x7 f2 f4 f5
      have HS1 := Lib.hid (HS.out.still (w' := w3.drew) ((Fr.refl _ _).drew))
      replace HB := Lib.hid HB.out.drew
      have HM1 : Hid (IsPush w3.drew m y') := Lib.hid HM.out
      have HQ1 : Hid (IsQ B w3.drew x p c cc (some m) po next put taken ok vp vt) := Lib.hid (HQ.out.fr ((Fr.refl (fun _ => False) _).drew) id (fun _ _ => id) (fun _ _ => id))
      have HK1 : Hid (KeptO w w3.drew) := Lib.hid HK.out
      clear HS HQ HK HM
      refine Rg.Upto.start (fun w' => w'.heap[x]? = some (.cells #[.pointer (some ⟨p, 0, none⟩), .pointer (some ⟨c, 0, none⟩), pv (some m), pv po, .int .u64 next, vp, vt, .bool ok] 50 (0, 0))) 13 (by kernel_rfl) HQ1.out.blk (fun HSC => ?_)
      refine Rg.Upto.take (i := 0) (v := ?_) rfl (by kernel_rfl) (by kernel_rfl) (by kernel_rfl) (by kernel_rfl) (fun _ _ _ h => h) (by rfl) (fun w5 hS5 => ?_) HSC ?_
      rotate_left
      · clear hS5
        go_simp
        try rfl
      try simp only [Act.put, List.setIfInBounds_toArray, List.set_cons_zero, List.set_cons_succ]
      refine Rg.Upto.take (i := 1) (v := ?_) rfl (by kernel_rfl) (by kernel_rfl) (by kernel_rfl) (by kernel_rfl) (fun _ _ _ h => h) (by rfl) (fun w5 hS5 => ?_) HSC ?_
      rotate_left
      · clear hS5
        go_simp
        try rfl
      try simp only [Act.put, List.setIfInBounds_toArray, List.set_cons_zero, List.set_cons_succ]
      refine Rg.Upto.take (i := 2) (v := ?_) rfl (by kernel_rfl) (by kernel_rfl) (by kernel_rfl) (by kernel_rfl) (fun _ _ _ h => h) (by rfl) (fun w5 hS5 => ?_) HSC ?_
      rotate_left
      · clear hS5
        go_simp
        try rfl
      try simp only [Act.put, List.setIfInBounds_toArray, List.set_cons_zero, List.set_cons_succ]
      refine Rg.Upto.take (i := 3) (v := ?_) rfl (by kernel_rfl) (by kernel_rfl) (by kernel_rfl) (by kernel_rfl) (fun _ _ _ h => h) (by rfl) (fun w5 hS5 => ?_) HSC ?_
      rotate_left
      · clear hS5
        go_simp
        try rfl
      try simp only [Act.put, List.setIfInBounds_toArray, List.set_cons_zero, List.set_cons_succ]
      refine Rg.Upto.take (i := 4) (v := ?_) rfl (by kernel_rfl) (by kernel_rfl) (by kernel_rfl) (by kernel_rfl) (fun _ _ _ h => h) (by rfl) (fun w5 hS5 => ?_) HSC ?_
      rotate_left
      · have x4 := (Hp.blk_cell hS5 4 rfl).1
        have x5 := (Hp.blk_cell hS5 5 rfl).1
        clear hS5
        go_simp
        try rfl
      try simp only [Act.put, List.setIfInBounds_toArray, List.set_cons_zero, List.set_cons_succ]
      refine Rg.Upto.take (i := 5) (v := ?_) rfl (by kernel_rfl) (by kernel_rfl) (by kernel_rfl) (by kernel_rfl) (fun _ _ _ h => h) (by rfl) (fun w5 hS5 => ?_) HSC ?_
      rotate_left
      · clear hS5
        go_simp
        try rfl
      try simp only [Act.put, List.setIfInBounds_toArray, List.set_cons_zero, List.set_cons_succ]
      refine Rg.Upto.take (i := 6) (v := ?_) rfl (by kernel_rfl) (by kernel_rfl) (by kernel_rfl) (by kernel_rfl) (fun _ _ _ h => h) (by rfl) (fun w5 hS5 => ?_) HSC ?_
      rotate_left
      · clear hS5
        go_simp
        try rfl
      try simp only [Act.put, List.setIfInBounds_toArray, List.set_cons_zero, List.set_cons_succ]
      refine Rg.Upto.take (i := 7) (v := ?_) rfl (by kernel_rfl) (by kernel_rfl) (by kernel_rfl) (by kernel_rfl) (fun _ _ _ h => h) (by rfl) (fun w5 hS5 => ?_) HSC ?_
      rotate_left
      · clear hS5
        go_simp
        try rfl
      try simp only [Act.put, List.setIfInBounds_toArray, List.set_cons_zero, List.set_cons_succ]
      refine Rg.Upto.take (i := 8) (v := ?_) rfl (by kernel_rfl) (by kernel_rfl) (by kernel_rfl) (by kernel_rfl) (fun _ _ _ h => h) (by rfl) (fun w5 hS5 => ?_) HSC ?_
      rotate_left
      · have x4 := (Hp.blk_cell hS5 4 rfl).1
        have x5 := (Hp.blk_cell hS5 5 rfl).1
        clear hS5
        go_simp
        try rfl
      try simp only [Act.put, List.setIfInBounds_toArray, List.set_cons_zero, List.set_cons_succ]
      refine Rg.Upto.one (i := 9) rfl (by kernel_rfl) (by rfl) (fun KK hK => ?_)
      go_simp
      refine hK.out _ _ (Hp.blk_alloc HSC _) ?_
      clear hK KK
      try simp only [Act.put, List.setIfInBounds_toArray, List.set_cons_zero, List.set_cons_succ]
      obtain ⟨i0, hi0, hz0, hz1, hz2⟩ := info_parts infoU
      have hBr : B ≤ w3.drew.heap.size := HS1.out.base.1
      have hcl : cc < w3.drew.heap.size := HS1.out.lt.2
      refine Rg.Upto.one (i := 10) rfl (by kernel_rfl) (by rfl) (fun KK hK => ?_)
      refine wp_append_lies _ (.tmp 46) (.tmp 51) 33 rfl B 24 i0 _ 1 8 Try.underlying33 hi0 hz0 hz1 hz2 rfl (by omega) vp put.length (put.map (Value.int .u64)) rfl (own_fr2 HQ1.out.rp ((Fr.refl (fun _ => False) _).alloc _) (fun _ _ => id)) ⟨w3.drew.heap.size, 0, none⟩ 1 1 [.int .u64 next] rfl rfl
        (World.news_of_block (cs := #[.int .u64 next]) (t := 24) (fr := (0, 0)) (Hp.blk_new w3.drew _)) (by simp [Value.oneCell']) (by omega) (by have := HL.out; unfold maxLen; omega) (by have := HL.out; omega) (by show B ≤ (w3.drew.alloc _).heap.size; have : w3.drew.heap.size = w3.heap.size := rfl; simp; omega) (w3.drew.heap.size + 1) (by show (w3.drew.alloc _).heap.size = _; simp) ?_
      intro gg cap w4 own4 grow4 at4 lt4
      have e0 : Fr (fun k => vp.ownBlock = some k) w3.drew w4 := ((Fr.refl _ w3.drew).alloc _).grown grow4 (fun k hk => .inl hk)
      have fX := e0.blk HQ1.out.blk (fun z => row_ne HQ1.out.rp HQ1.out.blk (by decide) x z rfl)
      refine hK.out _ _ fX ?_
      clear hK KK
      try simp only [Act.put, List.setIfInBounds_toArray, List.set_cons_zero, List.set_cons_succ]
      refine Rg.Upto.one (i := 11) rfl (by kernel_rfl) (by rfl) (fun KK hK => ?_)
      go_simp
      refine hK.out _ _ fX ?_
      clear hK KK
      try simp only [Act.put, List.setIfInBounds_toArray, List.set_cons_zero, List.set_cons_succ]
      refine Rg.Upto.one (i := 12) rfl (by kernel_rfl) (by rfl) (fun KK hK => ?_)
      go_simp
      refine hK.out _ _ fX ?_
      clear hK KK
      try simp only [Act.put, List.setIfInBounds_toArray, List.set_cons_zero, List.set_cons_succ]
      obtain ⟨x5, f5⟩ := Hp.blk_cell fX 5 rfl
      refine Rg.Upto.last rfl (by kernel_rfl) (by kernel_rfl) (by rfl) (fun KK hK => ?_)
      go_simp
      refine hK.out _ _ ?_
      clear hK KK HSC x5 f5
      have HQ := Lib.hid (HQ1.out.gave next gg cap own4 e0 (by rcases at4 with h | h; exact .inl h; exact .inr (by have : w3.drew.heap.size = w3.heap.size := rfl; omega)) lt4 hcl)
      have hS4 := HS1.out.fr e0 (fun k _ hk => row_far HQ1.out.rp k hk (HQ1.out.sp k hk).2.1)
      have HS3 := Lib.hid (hS4.other (not_touch fX HQ1.out.nx (by decide)) 5 (.slice (some ⟨gg, 0, none⟩) (put.length + 1) cap))
      have HK2 := Lib.hid ((HK1.out.row HQ1.out.rp e0).set fX 5 (.slice (some ⟨gg, 0, none⟩) (put.length + 1) cap))
      have HB2 := Lib.hid ((HB.out.trans (b := w3.drew) (c := w4) ⟨e0.os, e0.tape, e0.output, e0.size, fun k hk => e0.block k (Nat.lt_of_lt_of_le hk hBr) (fun z => by have := (row_blk HQ1.out.rp k z).2; omega)⟩).setCell (p := ⟨x, 5, none⟩) HQ1.out.bx (.slice (some ⟨gg, 0, none⟩) (put.length + 1) cap))
      clear HQ1 HS1 HK1 HB e0 fX own4 grow4 at4 lt4 hS4 hBr hcl HM1
      generalize (w4.setCell ⟨x, 5, none⟩ (.slice (some ⟨gg, 0, none⟩) (put.length + 1) cap)) = wq at HQ HS3 HK2 HB2 ⊢
      obtain ⟨x0, -⟩ := Hp.blk_cell HQ.out.blk 0 rfl
      obtain ⟨x1, -⟩ := Hp.blk_cell HQ.out.blk 1 rfl
      obtain ⟨x2, f2⟩ := Hp.blk_cell HQ.out.blk 2 (v := .pointer (some ⟨m, 0, none⟩)) rfl
      obtain ⟨x3, -⟩ := Hp.blk_cell HQ.out.blk 3 rfl
      obtain ⟨x4, f4⟩ := Hp.blk_cell HQ.out.blk 4 rfl
      obtain ⟨x5, f5⟩ := Hp.blk_cell HQ.out.blk 5 rfl
      obtain ⟨x6, -⟩ := Hp.blk_cell HQ.out.blk 6 rfl
      obtain ⟨x7, -⟩ := Hp.blk_cell HQ.out.blk 7 rfl
      go_upto_region 8 with (fail)
      have HQ3 := Lib.hid (HQ.out.nxt (IntKind.u64.wrap (next + 1)))
      replace HS3 := Lib.hid (HS3.out.other (not_touch HQ.out.blk HQ.out.nx (by decide)) 4 (.int .u64 (IntKind.u64.wrap (next + 1))))
      replace HB2 := Lib.hid (HB2.out.setCell (p := ⟨x, 4, none⟩) HQ.out.bx (.int .u64 (IntKind.u64.wrap (next + 1))))
      replace HK2 := Lib.hid (HK2.out.set HQ.out.blk 4 (.int .u64 (IntKind.u64.wrap (next + 1))))
      clear x0 x1 x2 x3 x4 x5 x6 x7 f2 f4 f5
      clear HQ
      have HQ := HQ3
      clear HQ3
      generalize (wq.setCell ⟨x, 4, none⟩ (.int .u64 (IntKind.u64.wrap (next + 1)))) = wz at HQ HS3 HK2 HB2 ⊢
      obtain ⟨x0, -⟩ := Hp.blk_cell HQ.out.blk 0 rfl
      obtain ⟨x1, -⟩ := Hp.blk_cell HQ.out.blk 1 rfl
      obtain ⟨x2, f2⟩ := Hp.blk_cell HQ.out.blk 2 (v := .pointer (some ⟨m, 0, none⟩)) rfl
      obtain ⟨x3, -⟩ := Hp.blk_cell HQ.out.blk 3 rfl
      obtain ⟨x4, f4⟩ := Hp.blk_cell HQ.out.blk 4 rfl
      obtain ⟨x5, f5⟩ := Hp.blk_cell HQ.out.blk 5 rfl
      obtain ⟨x6, -⟩ := Hp.blk_cell HQ.out.blk 6 rfl
      obtain ⟨x7, -⟩ := Hp.blk_cell HQ.out.blk 7 rfl
      go_wp2_with (fail)
      go_end0
      have hq2 := HQ.out.push none
      refine ⟨rfl, ⟨none, _, by rw [if_pos ⟨rfl, HEE.out⟩, if_pos ⟨rfl, HEE.out⟩]; exact hq2, .inl ⟨rfl, rfl⟩⟩, HS3.out.other (not_touch HQ.out.blk HQ.out.nx (by decide)) 2 _, HB2.out.setCell (p := ⟨x, 2, none⟩) HQ.out.bx _, HK2.out.set HQ.out.blk 2 _⟩

set_option maxHeartbeats 4000000 in
set_option maxRecDepth 100000 in
theorem puts_some {B : Nat} {w : World} {a cc : Nat} {s : AS} {ps : List (Nat × Int × Bool)} {x p c : Nat} {po : Option Nat} {next : Int} {put taken : List Int} {ok : Bool} {vp vt : Value} {who : Int} {g : Bool} {P T R : Int} {m : Nat}
    (hs : Sys B w a cc s ps) (i : Nat) (hi : ps[i]? = some (p, who, g)) (hq : IsQ B w x p c cc (some m) po next put taken ok vp vt) (y y' : PS) (s' : AS) (psF : List (Nat × Int × Bool)) (ov : Bool)
    (hBm : B ≤ m) (hm : IsPush w m y)
    (hr : ring_right.f P T R 0 = some true) (hnx : next ≠ 0) (hlen : put.length ≤ 100000)
    (hstep : ∀ (wx : World) (m : Nat), B ≤ m → Sys B wx a cc s (ps.set i (p, who, true)) → IsPush wx m y →
      Calls Try.prog 24 #[.pointer (some ⟨m, 0, none⟩), .pointer (some ⟨p, 0, none⟩)] wx fun e w' => e = .returned (.bool ov) ∧ IsPush w' m y' ∧ Sys B w' a cc s' psF ∧ Below B wx w' ∧ Fr (fun k => k = m ∨ Touch cc wx k) wx w') :
    Calls Try.prog 19 #[.pointer (some ⟨x, 0, none⟩), .agg #[.int .i64 P, .int .i64 T, .int .i64 R]] w fun e w' => e = .returned (.tuple #[]) ∧ AfterP B w a cc s' psF x p c po next put taken ok vt y' ov w' := by
  have HS := Lib.hid (hs.alloc (.cells #[.int .i64 P, .int .i64 T, .int .i64 R] 23))
  have HI := Lib.hid hi
  have HQ := Lib.hid (hq.below ((Below.refl _ w).alloc (Nat.le_refl _) (.cells #[.int .i64 P, .int .i64 T, .int .i64 R] 23)))
  have KB : Hid ((w.alloc (.cells #[.int .i64 P, .int .i64 T, .int .i64 R] 23)).heap[w.heap.size]? = some (.cells #[.int .i64 P, .int .i64 T, .int .i64 R] 23 (0, 0))) := Lib.hid (Hp.blk_new w _)
  have HB := Lib.hid ((Below.refl B w).alloc hs.base.1 (.cells #[.int .i64 P, .int .i64 T, .int .i64 R] 23))
  have HK : Hid (KeptO w (w.alloc (.cells #[.int .i64 P, .int .i64 T, .int .i64 R] 23))) := Lib.hid (fun m z h => Hp.blk_alloc h _)
  have HR := Lib.hid hr
  have HL := Lib.hid hlen
  have HST := Lib.hid hstep
  have HNX := Lib.hid hnx
  have HM := Lib.hid (show IsPush (w.alloc (.cells #[.int .i64 P, .int .i64 T, .int .i64 R] 23)) m y from Hp.blk_alloc hm (.cells #[.int .i64 P, .int .i64 T, .int .i64 R] 23))
  have HBM := Lib.hid hBm
  clear hm hBm
  clear hs hi hq hr hlen hstep hnx
  obtain ⟨c0, -⟩ := Hp.blk_cell KB.out 0 rfl
  obtain ⟨c1, -⟩ := Hp.blk_cell KB.out 1 rfl
  obtain ⟨c2, -⟩ := Hp.blk_cell KB.out 2 rfl
  go_enter Try.func19, Try.ntmps19
  obtain ⟨x0, -⟩ := Hp.blk_cell HQ.out.blk 0 rfl
  obtain ⟨x1, -⟩ := Hp.blk_cell HQ.out.blk 1 rfl
  obtain ⟨x2, f2⟩ := Hp.blk_cell HQ.out.blk 2 (v := .pointer (some ⟨m, 0, none⟩)) rfl
  obtain ⟨x3, -⟩ := Hp.blk_cell HQ.out.blk 3 rfl
  obtain ⟨x4, f4⟩ := Hp.blk_cell HQ.out.blk 4 rfl
  obtain ⟨x5, f5⟩ := Hp.blk_cell HQ.out.blk 5 rfl
  obtain ⟨x6, -⟩ := Hp.blk_cell HQ.out.blk 6 rfl
  obtain ⟨x7, -⟩ := Hp.blk_cell HQ.out.blk 7 rfl
  go_upto_region 4 with ((go_at_call 43; ((have hm := HS.out.grant i HI.out); (with_reducible refine hm.mono ?_); clear hm; rintro e w2 ⟨rfl, hD⟩; clear x0 x1 x2 x3 x4 x5 x6 x7 f2 f4 f5; replace HM := Lib.hid (hD.fr.blk HM.out (not_touch HM.out (blk_ne HM.out (sys_cel HS.out) (by decide)) (by decide))); replace HQ := Lib.hid (HQ.out.touch hD.fr); replace HK := Lib.hid (HK.out.fr hD.fr HS.out (fun _ _ _ z => z)); (have HS2 := Lib.hid hD.sys); replace HB := Lib.hid (HB.out.trans hD.bel); clear hD HS)))
  have HS1 := Lib.hid (HS2.out.still (w' := w2.drew) ((Fr.refl _ _).drew))
  replace HB := Lib.hid HB.out.drew
  have HM1 : Hid (IsPush w2.drew m y) := Lib.hid HM.out
  have HQ1 : Hid (IsQ B w2.drew x p c cc (some m) po next put taken ok vp vt) := Lib.hid (HQ.out.fr ((Fr.refl (fun _ => False) _).drew) id (fun _ _ => id) (fun _ _ => id))
  have HK1 : Hid (KeptO w w2.drew) := Lib.hid HK.out
  clear HS2 HQ HK HM
  refine Rg.Upto.start (fun w' => w'.heap[x]? = some (.cells #[.pointer (some ⟨p, 0, none⟩), .pointer (some ⟨c, 0, none⟩), pv (some m), pv po, .int .u64 next, vp, vt, .bool ok] 50 (0, 0))) 1000 (by kernel_rfl) HQ1.out.blk (fun HSC => ?_)
  refine Rg.Upto.takeA (i := 0) (v := ?_) rfl (by kernel_rfl) (by kernel_rfl) (by kernel_rfl) (of_decide_eq_true (by kernel_rfl)) (fun _ _ _ h => h) (by rfl) (fun w5 hS5 => ?_) HSC ?_
  rotate_left
  · clear hS5
    go_simp
    try rfl
  try simp only [Act.put, List.setIfInBounds_toArray, List.set_cons_zero, List.set_cons_succ]
  refine Rg.Upto.takeA (i := 1) (v := ?_) rfl (by kernel_rfl) (by kernel_rfl) (by kernel_rfl) (of_decide_eq_true (by kernel_rfl)) (fun _ _ _ h => h) (by rfl) (fun w5 hS5 => ?_) HSC ?_
  rotate_left
  · clear hS5
    go_simp
    try rfl
  try simp only [Act.put, List.setIfInBounds_toArray, List.set_cons_zero, List.set_cons_succ]
  refine Rg.Upto.takeA (i := 2) (v := ?_) rfl (by kernel_rfl) (by kernel_rfl) (by kernel_rfl) (of_decide_eq_true (by kernel_rfl)) (fun _ _ _ h => h) (by rfl) (fun w5 hS5 => ?_) HSC ?_
  rotate_left
  · clear hS5
    go_simp
    try rfl
  try simp only [Act.put, List.setIfInBounds_toArray, List.set_cons_zero, List.set_cons_succ]
  refine Rg.Upto.takeA (i := 3) (v := ?_) rfl (by kernel_rfl) (by kernel_rfl) (by kernel_rfl) (of_decide_eq_true (by kernel_rfl)) (fun _ _ _ h => h) (by rfl) (fun w5 hS5 => ?_) HSC ?_
  rotate_left
  · have x2 := (Hp.blk_cell hS5 2 (v := .pointer (some ⟨m, 0, none⟩)) rfl).1
    have x0 := (Hp.blk_cell hS5 0 rfl).1
    clear hS5
    go_simp
    try rfl
  try simp only [Act.put, List.setIfInBounds_toArray, List.set_cons_zero, List.set_cons_succ]
  refine Rg.Upto.takeA (i := 4) (v := ?_) rfl (by kernel_rfl) (by kernel_rfl) (by kernel_rfl) (of_decide_eq_true (by kernel_rfl)) (fun _ _ _ h => h) (by rfl) (fun w5 hS5 => ?_) HSC ?_
  rotate_left
  · clear hS5
    go_simp
    try rfl
  try simp only [Act.put, List.setIfInBounds_toArray, List.set_cons_zero, List.set_cons_succ]
  refine Rg.Upto.takeA (i := 5) (v := ?_) rfl (by kernel_rfl) (by kernel_rfl) (by kernel_rfl) (of_decide_eq_true (by kernel_rfl)) (fun _ _ _ h => h) (by rfl) (fun w5 hS5 => ?_) HSC ?_
  rotate_left
  · clear hS5
    go_simp
    try rfl
  try simp only [Act.put, List.setIfInBounds_toArray, List.set_cons_zero, List.set_cons_succ]
  refine Rg.Upto.takeA (i := 6) (v := ?_) rfl (by kernel_rfl) (by kernel_rfl) (by kernel_rfl) (of_decide_eq_true (by kernel_rfl)) (fun _ _ _ h => h) (by rfl) (fun w5 hS5 => ?_) HSC ?_
  rotate_left
  · clear hS5
    go_simp
    try rfl
  try simp only [Act.put, List.setIfInBounds_toArray, List.set_cons_zero, List.set_cons_succ]
  refine Rg.Upto.takeA (i := 7) (v := ?_) rfl (by kernel_rfl) (by kernel_rfl) (by kernel_rfl) (of_decide_eq_true (by kernel_rfl)) (fun _ _ _ h => h) (by rfl) (fun w5 hS5 => ?_) HSC ?_
  rotate_left
  · have x2 := (Hp.blk_cell hS5 2 (v := .pointer (some ⟨m, 0, none⟩)) rfl).1
    have x0 := (Hp.blk_cell hS5 0 rfl).1
    clear hS5
    go_simp
    try rfl
  try simp only [Act.put, List.setIfInBounds_toArray, List.set_cons_zero, List.set_cons_succ]
  refine Rg.Upto.one (i := 8) rfl (by kernel_rfl) (by rfl) (fun KK hK => ?_)
  go_simp
  have hm := HST.out _ m HBM.out HS1.out HM1.out
  (with_reducible refine hm.mono ?_)
  clear hm
  rintro e w3 ⟨rfl, hX, hS, hb, hF⟩
  have HQ := Lib.hid (HQ1.out.step HM1.out (by decide) hF)
  have HK := Lib.hid (HK1.out.fr hF HS1.out (fun m2 z h1 h2 => by
    rcases h2 with h2 | h2
    · exact absurd h2 (blk_ne h1 HM1.out (by decide))
    · exact h2))
  have HM := Lib.hid hX
  have HS := Lib.hid hS
  replace HB := Lib.hid (HB.out.trans hb)
  clear HQ1 HK1 HM1 HS1 hX hS hb hF HSC
  refine hK.out _ _ HQ.out.blk ?_
  clear hK KK
  try simp only [Act.put, List.setIfInBounds_toArray, List.set_cons_zero, List.set_cons_succ]
  refine Rg.Upto.done (by kernel_rfl) ?_
  cases ov with
  | false =>
    go_wp2_with (fail)
    go_end0
    exact ⟨rfl, ⟨some m, vp, by rw [if_neg (by simp), if_neg (by simp)]; exact HQ.out, .inr ⟨rfl, m, rfl, HBM.out, HM.out⟩⟩, HS.out, HB.out, HK.out⟩
  | true =>
    obtain ⟨x0, -⟩ := Hp.blk_cell HQ.out.blk 0 rfl
    obtain ⟨x1, -⟩ := Hp.blk_cell HQ.out.blk 1 rfl
    obtain ⟨x2, f2⟩ := Hp.blk_cell HQ.out.blk 2 (v := .pointer (some ⟨m, 0, none⟩)) rfl
    obtain ⟨x3, -⟩ := Hp.blk_cell HQ.out.blk 3 rfl
    obtain ⟨x4, f4⟩ := Hp.blk_cell HQ.out.blk 4 rfl
    obtain ⟨x5, f5⟩ := Hp.blk_cell HQ.out.blk 5 rfl
    obtain ⟨x6, -⟩ := Hp.blk_cell HQ.out.blk 6 rfl
    obtain ⟨x7, -⟩ := Hp.blk_cell HQ.out.blk 7 rfl
    rcases Bool.eq_false_or_eq_true y'.full with he | he
    · have HE : Hid (Calls Try.prog 17 #[.pointer (some ⟨m, 0, none⟩)] w3 fun e w' => e = .returned (.bool true) ∧ w' = w3) := Lib.hid (by have := push_full w3 m y' HM.out; rw [he] at this; exact this)
      have HEE := Lib.hid he
      clear he
      go_wp2_with (first
        | (go_at_call 17; ((with_reducible refine HE.out.mono ?_); rintro e w9 ⟨rfl, hw⟩; obtain rfl := hw.symm)))
      go_end0
      have hq2 := HQ.out.push none
      refine ⟨rfl, ⟨none, vp, by rw [if_neg (by rw [HEE.out]; simp), if_neg (by rw [HEE.out]; simp)]; exact hq2, .inl ⟨rfl, rfl⟩⟩, HS.out.other (not_touch HQ.out.blk HQ.out.nx (by decide)) 2 _, HB.out.setCell (p := ⟨x, 2, none⟩) HQ.out.bx _, HK.out.set HQ.out.blk 2 _⟩
    · have HE : Hid (Calls Try.prog 17 #[.pointer (some ⟨m, 0, none⟩)] w3 fun e w' => e = .returned (.bool false) ∧ w' = w3) := Lib.hid (by have := push_full w3 m y' HM.out; rw [he] at this; exact this)
      have HEE := Lib.hid he
      clear he
      go_upto_region 6 with (first
        | (go_at_call 17; ((with_reducible refine HE.out.mono ?_); rintro e w9 ⟨rfl, hw⟩; obtain rfl := hw.symm)))
      clear x0 x1 x2 x3 x4 x5 x6 x7 f2 f4 f5
      have HS1 := Lib.hid (HS.out.still (w' := w3.drew) ((Fr.refl _ _).drew))
      replace HB := Lib.hid HB.out.drew
      have HM1 : Hid (IsPush w3.drew m y') := Lib.hid HM.out
      have HQ1 : Hid (IsQ B w3.drew x p c cc (some m) po next put taken ok vp vt) := Lib.hid (HQ.out.fr ((Fr.refl (fun _ => False) _).drew) id (fun _ _ => id) (fun _ _ => id))
      have HK1 : Hid (KeptO w w3.drew) := Lib.hid HK.out
      clear HS HQ HK HM
      refine Rg.Upto.start (fun w' => w'.heap[x]? = some (.cells #[.pointer (some ⟨p, 0, none⟩), .pointer (some ⟨c, 0, none⟩), pv (some m), pv po, .int .u64 next, vp, vt, .bool ok] 50 (0, 0))) 13 (by kernel_rfl) HQ1.out.blk (fun HSC => ?_)
      refine Rg.Upto.take (i := 0) (v := ?_) rfl (by kernel_rfl) (by kernel_rfl) (by kernel_rfl) (by kernel_rfl) (fun _ _ _ h => h) (by rfl) (fun w5 hS5 => ?_) HSC ?_
      rotate_left
      · clear hS5
        go_simp
        try rfl
      try simp only [Act.put, List.setIfInBounds_toArray, List.set_cons_zero, List.set_cons_succ]
      refine Rg.Upto.take (i := 1) (v := ?_) rfl (by kernel_rfl) (by kernel_rfl) (by kernel_rfl) (by kernel_rfl) (fun _ _ _ h => h) (by rfl) (fun w5 hS5 => ?_) HSC ?_
      rotate_left
      · clear hS5
        go_simp
        try rfl
      try simp only [Act.put, List.setIfInBounds_toArray, List.set_cons_zero, List.set_cons_succ]
      refine Rg.Upto.take (i := 2) (v := ?_) rfl (by kernel_rfl) (by kernel_rfl) (by kernel_rfl) (by kernel_rfl) (fun _ _ _ h => h) (by rfl) (fun w5 hS5 => ?_) HSC ?_
      rotate_left
      · clear hS5
        go_simp
        try rfl
      try simp only [Act.put, List.setIfInBounds_toArray, List.set_cons_zero, List.set_cons_succ]
      refine Rg.Upto.take (i := 3) (v := ?_) rfl (by kernel_rfl) (by kernel_rfl) (by kernel_rfl) (by kernel_rfl) (fun _ _ _ h => h) (by rfl) (fun w5 hS5 => ?_) HSC ?_
      rotate_left
      · clear hS5
        go_simp
        try rfl
      try simp only [Act.put, List.setIfInBounds_toArray, List.set_cons_zero, List.set_cons_succ]
      refine Rg.Upto.take (i := 4) (v := ?_) rfl (by kernel_rfl) (by kernel_rfl) (by kernel_rfl) (by kernel_rfl) (fun _ _ _ h => h) (by rfl) (fun w5 hS5 => ?_) HSC ?_
      rotate_left
      · have x4 := (Hp.blk_cell hS5 4 rfl).1
        have x5 := (Hp.blk_cell hS5 5 rfl).1
        clear hS5
        go_simp
        try rfl
      try simp only [Act.put, List.setIfInBounds_toArray, List.set_cons_zero, List.set_cons_succ]
      refine Rg.Upto.take (i := 5) (v := ?_) rfl (by kernel_rfl) (by kernel_rfl) (by kernel_rfl) (by kernel_rfl) (fun _ _ _ h => h) (by rfl) (fun w5 hS5 => ?_) HSC ?_
      rotate_left
      · clear hS5
        go_simp
        try rfl
      try simp only [Act.put, List.setIfInBounds_toArray, List.set_cons_zero, List.set_cons_succ]
      refine Rg.Upto.take (i := 6) (v := ?_) rfl (by kernel_rfl) (by kernel_rfl) (by kernel_rfl) (by kernel_rfl) (fun _ _ _ h => h) (by rfl) (fun w5 hS5 => ?_) HSC ?_
      rotate_left
      · clear hS5
        go_simp
        try rfl
      try simp only [Act.put, List.setIfInBounds_toArray, List.set_cons_zero, List.set_cons_succ]
      refine Rg.Upto.take (i := 7) (v := ?_) rfl (by kernel_rfl) (by kernel_rfl) (by kernel_rfl) (by kernel_rfl) (fun _ _ _ h => h) (by rfl) (fun w5 hS5 => ?_) HSC ?_
      rotate_left
      · clear hS5
        go_simp
        try rfl
      try simp only [Act.put, List.setIfInBounds_toArray, List.set_cons_zero, List.set_cons_succ]
      refine Rg.Upto.take (i := 8) (v := ?_) rfl (by kernel_rfl) (by kernel_rfl) (by kernel_rfl) (by kernel_rfl) (fun _ _ _ h => h) (by rfl) (fun w5 hS5 => ?_) HSC ?_
      rotate_left
      · have x4 := (Hp.blk_cell hS5 4 rfl).1
        have x5 := (Hp.blk_cell hS5 5 rfl).1
        clear hS5
        go_simp
        try rfl
      try simp only [Act.put, List.setIfInBounds_toArray, List.set_cons_zero, List.set_cons_succ]
      refine Rg.Upto.one (i := 9) rfl (by kernel_rfl) (by rfl) (fun KK hK => ?_)
      go_simp
      refine hK.out _ _ (Hp.blk_alloc HSC _) ?_
      clear hK KK
      try simp only [Act.put, List.setIfInBounds_toArray, List.set_cons_zero, List.set_cons_succ]
      obtain ⟨i0, hi0, hz0, hz1, hz2⟩ := info_parts infoU
      have hBr : B ≤ w3.drew.heap.size := HS1.out.base.1
      have hcl : cc < w3.drew.heap.size := HS1.out.lt.2
      refine Rg.Upto.one (i := 10) rfl (by kernel_rfl) (by rfl) (fun KK hK => ?_)
      refine wp_append_lies _ (.tmp 46) (.tmp 51) 33 rfl B 24 i0 _ 1 8 Try.underlying33 hi0 hz0 hz1 hz2 rfl (by omega) vp put.length (put.map (Value.int .u64)) rfl (own_fr2 HQ1.out.rp ((Fr.refl (fun _ => False) _).alloc _) (fun _ _ => id)) ⟨w3.drew.heap.size, 0, none⟩ 1 1 [.int .u64 next] rfl rfl
        (World.news_of_block (cs := #[.int .u64 next]) (t := 24) (fr := (0, 0)) (Hp.blk_new w3.drew _)) (by simp [Value.oneCell']) (by omega) (by have := HL.out; unfold maxLen; omega) (by have := HL.out; omega) (by show B ≤ (w3.drew.alloc _).heap.size; have : w3.drew.heap.size = w3.heap.size := rfl; simp; omega) (w3.drew.heap.size + 1) (by show (w3.drew.alloc _).heap.size = _; simp) ?_
      intro gg cap w4 own4 grow4 at4 lt4
      have e0 : Fr (fun k => vp.ownBlock = some k) w3.drew w4 := ((Fr.refl _ w3.drew).alloc _).grown grow4 (fun k hk => .inl hk)
      have fX := e0.blk HQ1.out.blk (fun z => row_ne HQ1.out.rp HQ1.out.blk (by decide) x z rfl)
      refine hK.out _ _ fX ?_
      clear hK KK
      try simp only [Act.put, List.setIfInBounds_toArray, List.set_cons_zero, List.set_cons_succ]
      refine Rg.Upto.one (i := 11) rfl (by kernel_rfl) (by rfl) (fun KK hK => ?_)
      go_simp
      refine hK.out _ _ fX ?_
      clear hK KK
      try simp only [Act.put, List.setIfInBounds_toArray, List.set_cons_zero, List.set_cons_succ]
      refine Rg.Upto.one (i := 12) rfl (by kernel_rfl) (by rfl) (fun KK hK => ?_)
      go_simp
      refine hK.out _ _ fX ?_
      clear hK KK
      try simp only [Act.put, List.setIfInBounds_toArray, List.set_cons_zero, List.set_cons_succ]
      obtain ⟨x5, f5⟩ := Hp.blk_cell fX 5 rfl
      refine Rg.Upto.last rfl (by kernel_rfl) (by kernel_rfl) (by rfl) (fun KK hK => ?_)
      go_simp
      refine hK.out _ _ ?_
      clear hK KK HSC x5 f5
      have HQ := Lib.hid (HQ1.out.gave next gg cap own4 e0 (by rcases at4 with h | h; exact .inl h; exact .inr (by have : w3.drew.heap.size = w3.heap.size := rfl; omega)) lt4 hcl)
      have hS4 := HS1.out.fr e0 (fun k _ hk => row_far HQ1.out.rp k hk (HQ1.out.sp k hk).2.1)
      have HS3 := Lib.hid (hS4.other (not_touch fX HQ1.out.nx (by decide)) 5 (.slice (some ⟨gg, 0, none⟩) (put.length + 1) cap))
      have HK2 := Lib.hid ((HK1.out.row HQ1.out.rp e0).set fX 5 (.slice (some ⟨gg, 0, none⟩) (put.length + 1) cap))
      have HB2 := Lib.hid ((HB.out.trans (b := w3.drew) (c := w4) ⟨e0.os, e0.tape, e0.output, e0.size, fun k hk => e0.block k (Nat.lt_of_lt_of_le hk hBr) (fun z => by have := (row_blk HQ1.out.rp k z).2; omega)⟩).setCell (p := ⟨x, 5, none⟩) HQ1.out.bx (.slice (some ⟨gg, 0, none⟩) (put.length + 1) cap))
      clear HQ1 HS1 HK1 HB e0 fX own4 grow4 at4 lt4 hS4 hBr hcl HM1
      generalize (w4.setCell ⟨x, 5, none⟩ (.slice (some ⟨gg, 0, none⟩) (put.length + 1) cap)) = wq at HQ HS3 HK2 HB2 ⊢
      obtain ⟨x0, -⟩ := Hp.blk_cell HQ.out.blk 0 rfl
      obtain ⟨x1, -⟩ := Hp.blk_cell HQ.out.blk 1 rfl
      obtain ⟨x2, f2⟩ := Hp.blk_cell HQ.out.blk 2 (v := .pointer (some ⟨m, 0, none⟩)) rfl
      obtain ⟨x3, -⟩ := Hp.blk_cell HQ.out.blk 3 rfl
      obtain ⟨x4, f4⟩ := Hp.blk_cell HQ.out.blk 4 rfl
      obtain ⟨x5, f5⟩ := Hp.blk_cell HQ.out.blk 5 rfl
      obtain ⟨x6, -⟩ := Hp.blk_cell HQ.out.blk 6 rfl
      obtain ⟨x7, -⟩ := Hp.blk_cell HQ.out.blk 7 rfl
      go_upto_region 8 with (fail)
      have HQ3 := Lib.hid (HQ.out.nxt (IntKind.u64.wrap (next + 1)))
      replace HS3 := Lib.hid (HS3.out.other (not_touch HQ.out.blk HQ.out.nx (by decide)) 4 (.int .u64 (IntKind.u64.wrap (next + 1))))
      replace HB2 := Lib.hid (HB2.out.setCell (p := ⟨x, 4, none⟩) HQ.out.bx (.int .u64 (IntKind.u64.wrap (next + 1))))
      replace HK2 := Lib.hid (HK2.out.set HQ.out.blk 4 (.int .u64 (IntKind.u64.wrap (next + 1))))
      clear x0 x1 x2 x3 x4 x5 x6 x7 f2 f4 f5
      clear HQ
      have HQ := HQ3
      clear HQ3
      generalize (wq.setCell ⟨x, 4, none⟩ (.int .u64 (IntKind.u64.wrap (next + 1)))) = wz at HQ HS3 HK2 HB2 ⊢
      obtain ⟨x0, -⟩ := Hp.blk_cell HQ.out.blk 0 rfl
      obtain ⟨x1, -⟩ := Hp.blk_cell HQ.out.blk 1 rfl
      obtain ⟨x2, f2⟩ := Hp.blk_cell HQ.out.blk 2 (v := .pointer (some ⟨m, 0, none⟩)) rfl
      obtain ⟨x3, -⟩ := Hp.blk_cell HQ.out.blk 3 rfl
      obtain ⟨x4, f4⟩ := Hp.blk_cell HQ.out.blk 4 rfl
      obtain ⟨x5, f5⟩ := Hp.blk_cell HQ.out.blk 5 rfl
      obtain ⟨x6, -⟩ := Hp.blk_cell HQ.out.blk 6 rfl
      obtain ⟨x7, -⟩ := Hp.blk_cell HQ.out.blk 7 rfl
      go_wp2_with (fail)
      go_end0
      have hq2 := HQ.out.push none
      refine ⟨rfl, ⟨none, _, by rw [if_pos ⟨rfl, HEE.out⟩, if_pos ⟨rfl, HEE.out⟩]; exact hq2, .inl ⟨rfl, rfl⟩⟩, HS3.out.other (not_touch HQ.out.blk HQ.out.nx (by decide)) 2 _, HB2.out.setCell (p := ⟨x, 2, none⟩) HQ.out.bx _, HK2.out.set HQ.out.blk 2 _⟩
end Go.Proofs.Ytdcikbhfoplkmaa.Ar

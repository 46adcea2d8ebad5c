/- A step of the side that takes. -/
import Derived.Test.YtdcikbhfoplkmaaQu
namespace Go.Proofs.Ytdcikbhfoplkmaa.Ar
open Go Go.RowKit Go.Proofs.Ytdcikbhfoplkmaa.Hp Go.Proofs.Ytdcikbhfoplkmaa.PH
set_option linter.unusedVariables false
set_option linter.unusedSimpArgs false

/-- Each push, and each pop, is as it was. -/
def KeptU (w w' : World) : Prop := ∀ m z, IsPush w m z → IsPush w' m z
theorem KeptU.fr {S : Nat → Prop} {B a cc : Nat} {w0 w w' : World} {s : AS} {ps : List (Nat × Int × Bool)} (h : KeptU w0 w) (hF : Fr S w w') (hs : Sys B w a cc s ps) (hS : ∀ m z, IsPush w m z → S m → Touch cc w m) : KeptU w0 w' := fun m z hm => by
  have h1 := h m z hm
  exact hF.blk h1 (fun z2 => not_touch h1 (blk_ne h1 (sys_cel hs) (by decide)) (by decide) (hS m z h1 z2))
theorem KeptU.below {w0 w w' : World} (h : KeptU w0 w) (hb : Below w.heap.size w w') : KeptU w0 w' := fun m z hm => blk_below (h m z hm) hb
theorem KeptU.set {w0 w : World} {x : Nat} {cs : Array Value} (h : KeptU w0 w) (hx : w.heap[x]? = some (.cells cs 50 (0, 0))) (j : Nat) (u : Value) : KeptU w0 (w.setCell ⟨x, j, none⟩ u) := fun m z hm => Hp.blk_far (h m z hm) _ (blk_ne (h m z hm) hx (by decide)) u
theorem KeptU.row {B n : Nat} {w0 w w' : World} {v : Value} {xs : List Value} (h : KeptU w0 w) (hr : w.ownsRow B 24 1 v n xs) (hF : Fr (fun k => v.ownBlock = some k) w w') : KeptU w0 w' := fun m z hm => hF.blk (h m z hm) (fun hk => row_ne hr (h m z hm) (by decide) m hk rfl)
/-- What a step of the side that takes leaves. -/
def AfterT (B : Nat) (w : World) (a cc : Nat) (s' : AS) (psF : List (Nat × Int × Bool)) (x p c : Nat) (pu : Option Nat) (next : Int) (put taken : List Int) (ok : Bool) (vp : Value) (y' : OS) (ov : Bool) (w' : World) : Prop :=
  (∃ po' vt', IsQ B w' x p c cc pu po' next put (if ov = true ∧ y'.empty = false then taken ++ [y'.v] else taken) ok vp vt' ∧ ((ov = true ∧ po' = none) ∨ (ov = false ∧ ∃ m, po' = some m ∧ B ≤ m ∧ IsPop w' m y'))) ∧ Sys B w' a cc s' psF ∧ Below B w w' ∧ KeptU w w'

set_option maxHeartbeats 4000000 in
set_option maxRecDepth 100000 in
theorem takes_nil {B : Nat} {w : World} {a cc : Nat} {s : AS} {ps : List (Nat × Int × Bool)} {x p c : Nat} {pu : Option Nat} {next : Int} {put taken : List Int} {ok : Bool} {vp vt : Value} {who : Int} {g : Bool} {P T R : Int} 
    (hs : Sys B w a cc s ps) (i : Nat) (hi : ps[i]? = some (c, who, g)) (hq : IsQ B w x p c cc pu none next put taken ok vp vt) (y y' : OS) (s' : AS) (psF : List (Nat × Int × Bool)) (ov : Bool)
    (hy : y = ⟨P, T, R, 0, 0, 0, 0, 0, false⟩)
    (hr : ring_right.f P T R 0 = some true) (hlen : taken.length ≤ 100000)
    (hstep : ∀ (wx : World) (m : Nat), B ≤ m → Sys B wx a cc s (ps.set i (c, who, true)) → IsPop wx m y →
      Calls Try.prog 26 #[.pointer (some ⟨m, 0, none⟩), .pointer (some ⟨c, 0, none⟩)] wx fun e w' => e = .returned (.bool ov) ∧ IsPop w' m y' ∧ Sys B w' a cc s' psF ∧ Below B wx w' ∧ Fr (fun k => k = m ∨ Touch cc wx k) wx w')
    (hov : ov = true → y'.at_ = 4) :
    Calls Try.prog 18 #[.pointer (some ⟨x, 0, none⟩), .agg #[.int .i64 P, .int .i64 T, .int .i64 R]] w fun e w' => e = .returned (.tuple #[]) ∧ AfterT B w a cc s' psF x p c pu next put taken ok vp y' ov w' := by
  have HS := Lib.hid (hs.alloc (.cells #[.int .i64 P, .int .i64 T, .int .i64 R] 23))
  have HI := Lib.hid hi
  have HQ := Lib.hid (hq.below ((Below.refl _ w).alloc (Nat.le_refl _) (.cells #[.int .i64 P, .int .i64 T, .int .i64 R] 23)))
  have KB : Hid ((w.alloc (.cells #[.int .i64 P, .int .i64 T, .int .i64 R] 23)).heap[w.heap.size]? = some (.cells #[.int .i64 P, .int .i64 T, .int .i64 R] 23 (0, 0))) := Lib.hid (Hp.blk_new w _)
  have HB := Lib.hid ((Below.refl B w).alloc hs.base.1 (.cells #[.int .i64 P, .int .i64 T, .int .i64 R] 23))
  have HK : Hid (KeptU w (w.alloc (.cells #[.int .i64 P, .int .i64 T, .int .i64 R] 23))) := Lib.hid (fun m z h => Hp.blk_alloc h _)
  have HR := Lib.hid hr
  have HL := Lib.hid hlen
  have HST := Lib.hid hstep
  have HOV := Lib.hid hov
  clear hs hi hq hr hlen hstep hov
  obtain ⟨c0, -⟩ := Hp.blk_cell KB.out 0 rfl
  obtain ⟨c1, -⟩ := Hp.blk_cell KB.out 1 rfl
  obtain ⟨c2, -⟩ := Hp.blk_cell KB.out 2 rfl
  go_enter Try.func18, Try.ntmps18
  obtain ⟨x0, -⟩ := Hp.blk_cell HQ.out.blk 0 rfl
  obtain ⟨x1, -⟩ := Hp.blk_cell HQ.out.blk 1 rfl
  obtain ⟨x2, -⟩ := Hp.blk_cell HQ.out.blk 2 rfl
  obtain ⟨x3, f3⟩ := Hp.blk_cell HQ.out.blk 3 (v := .pointer (none)) rfl
  obtain ⟨x4, -⟩ := Hp.blk_cell HQ.out.blk 4 rfl
  obtain ⟨x5, -⟩ := Hp.blk_cell HQ.out.blk 5 rfl
  obtain ⟨x6, f6⟩ := Hp.blk_cell HQ.out.blk 6 rfl
  obtain ⟨x7, -⟩ := Hp.blk_cell HQ.out.blk 7 rfl
  go_upto_region 3 with (first
    | (go_at_call 13; ((with_reducible refine (windrowlaw07_plan.calls P T R P T R _ rfl).mono ?_); rintro e w9 ⟨rfl, hb⟩; clear c0 c1 c2 x0 x1 x2 x3 x4 x5 x6 x7 f3 f6; replace KB := Lib.hid (blk_below KB.out hb); replace HQ := Lib.hid (HQ.out.below hb); replace HK := Lib.hid (HK.out.below hb); replace HB := Lib.hid (HB.out.trans (hb.mono HS.out.base.1)); replace HS := Lib.hid (HS.out.below hb); clear hb; (obtain ⟨c0, -⟩ := Hp.blk_cell KB.out 0 rfl); (obtain ⟨c1, -⟩ := Hp.blk_cell KB.out 1 rfl); (obtain ⟨c2, -⟩ := Hp.blk_cell KB.out 2 rfl); (obtain ⟨x0, -⟩ := Hp.blk_cell HQ.out.blk 0 rfl); (obtain ⟨x1, -⟩ := Hp.blk_cell HQ.out.blk 1 rfl); (obtain ⟨x2, -⟩ := Hp.blk_cell HQ.out.blk 2 rfl); (obtain ⟨x3, f3⟩ := Hp.blk_cell HQ.out.blk 3 (v := .pointer (none)) rfl); (obtain ⟨x4, -⟩ := Hp.blk_cell HQ.out.blk 4 rfl); (obtain ⟨x5, -⟩ := Hp.blk_cell HQ.out.blk 5 rfl); (obtain ⟨x6, f6⟩ := Hp.blk_cell HQ.out.blk 6 rfl); (obtain ⟨x7, -⟩ := Hp.blk_cell HQ.out.blk 7 rfl)))
    | (go_at_call 22; ((with_reducible refine (newPop_yes _ P T R 0 HR.out).mono ?_); rintro e w9 ⟨m, rfl, hmz, hX, hb⟩; (have HBM := Lib.hid (Nat.le_trans HS.out.base.1 hmz)); (have HM := Lib.hid hX); clear hmz hX; clear c0 c1 c2 x0 x1 x2 x3 x4 x5 x6 x7 f3 f6; replace KB := Lib.hid (blk_below KB.out hb); replace HQ := Lib.hid (HQ.out.below hb); replace HK := Lib.hid (HK.out.below hb); replace HB := Lib.hid (HB.out.trans (hb.mono HS.out.base.1)); replace HS := Lib.hid (HS.out.below hb); clear hb; (obtain ⟨c0, -⟩ := Hp.blk_cell KB.out 0 rfl); (obtain ⟨c1, -⟩ := Hp.blk_cell KB.out 1 rfl); (obtain ⟨c2, -⟩ := Hp.blk_cell KB.out 2 rfl); (obtain ⟨x0, -⟩ := Hp.blk_cell HQ.out.blk 0 rfl); (obtain ⟨x1, -⟩ := Hp.blk_cell HQ.out.blk 1 rfl); (obtain ⟨x2, -⟩ := Hp.blk_cell HQ.out.blk 2 rfl); (obtain ⟨x3, f3⟩ := Hp.blk_cell HQ.out.blk 3 (v := .pointer (none)) rfl); (obtain ⟨x4, -⟩ := Hp.blk_cell HQ.out.blk 4 rfl); (obtain ⟨x5, -⟩ := Hp.blk_cell HQ.out.blk 5 rfl); (obtain ⟨x6, f6⟩ := Hp.blk_cell HQ.out.blk 6 rfl); (obtain ⟨x7, -⟩ := Hp.blk_cell HQ.out.blk 7 rfl))))
  have HM2 : Hid (IsPop (w9.setCell ⟨x, 3, none⟩ (pv (some m))) m y) := Lib.hid (by rw [hy]; exact Hp.blk_far HM.out _ (blk_ne HM.out HQ.out.blk (by decide)) _)
  have hS2 := HS.out.other (not_touch HQ.out.blk HQ.out.nx (by decide)) 3 (pv (some m))
  have hK2 := HK.out.set HQ.out.blk 3 (pv (some m))
  have hB2 := HB.out.setCell (p := ⟨x, 3, none⟩) HQ.out.bx (pv (some m))
  replace HQ := Lib.hid (HQ.out.pop (some m))
  replace HS := Lib.hid hS2
  replace HK := Lib.hid hK2
  replace HB := Lib.hid hB2
  clear hS2 hK2 hB2 HM x0 x1 x2 x3 x4 x5 x6 x7 f3 f6 c0 c1 c2 KB hy
  have HM := HM2
  clear HM2
  unfold pv at HM HS HQ HK HB
  simp only [Option.map] at HM HS HQ HK HB
  generalize (w9.setCell ⟨x, 3, none⟩ (.pointer (some ⟨m, 0, none⟩))) = wq at HM HS HQ HK HB ⊢
  obtain ⟨x0, -⟩ := Hp.blk_cell HQ.out.blk 0 rfl
  obtain ⟨x1, -⟩ := Hp.blk_cell HQ.out.blk 1 rfl
  obtain ⟨x2, -⟩ := Hp.blk_cell HQ.out.blk 2 rfl
  obtain ⟨x3, f3⟩ := Hp.blk_cell HQ.out.blk 3 (v := .pointer (some ⟨m, 0, none⟩)) rfl
  obtain ⟨x4, -⟩ := Hp.blk_cell HQ.out.blk 4 rfl
  obtain ⟨x5, -⟩ := Hp.blk_cell HQ.out.blk 5 rfl
  obtain ⟨x6, f6⟩ := Hp.blk_cell HQ.out.blk 6 rfl
  obtain ⟨x7, -⟩ := Hp.blk_cell HQ.out.blk 7 rfl
  go_upto_region 4 with ((go_at_call 43; ((have hm := HS.out.grant i HI.out); (with_reducible refine hm.mono ?_); clear hm; rintro e w2 ⟨rfl, hD⟩; clear x0 x1 x2 x3 x4 x5 x6 x7 f3 f6; replace HM := Lib.hid (hD.fr.blk HM.out (not_touch HM.out (blk_ne HM.out (sys_cel HS.out) (by decide)) (by decide))); replace HQ := Lib.hid (HQ.out.touch hD.fr); replace HK := Lib.hid (HK.out.fr hD.fr HS.out (fun _ _ _ z => z)); (have HS2 := Lib.hid hD.sys); replace HB := Lib.hid (HB.out.trans hD.bel); clear hD HS)))
  replace HS2 := Lib.hid (HS2.out.still ((Fr.refl _ _).drew))
  replace HB := Lib.hid HB.out.drew
  have HM1 : Hid (IsPop w2.drew m y) := Lib.hid HM.out
  have HQ1 : Hid (IsQ B w2.drew x p c cc pu (some m) next put taken ok vp vt) := Lib.hid (HQ.out.fr ((Fr.refl (fun _ => False) _).drew) id (fun _ _ => id) (fun _ _ => id))
  have HK1 : Hid (KeptU w w2.drew) := Lib.hid HK.out
  clear HM HQ HK
  refine Rg.Upto.start (fun w' => w'.heap[x]? = some (.cells #[.pointer (some ⟨p, 0, none⟩), .pointer (some ⟨c, 0, none⟩), pv pu, pv (some m), .int .u64 next, vp, vt, .bool ok] 50 (0, 0))) 1000 (by kernel_rfl) HQ1.out.blk (fun HSC => ?_)
  refine Rg.Upto.takeA (i := 0) (v := ?_) rfl (by kernel_rfl) (by kernel_rfl) (by kernel_rfl) (of_decide_eq_true (by kernel_rfl)) (fun _ _ _ h => h) (by rfl) (fun w5 hS5 => ?_) HSC ?_
  rotate_left
  · clear hS5
    go_simp
    try rfl
  try simp only [Act.put, List.setIfInBounds_toArray, List.set_cons_zero, List.set_cons_succ]
  refine Rg.Upto.takeA (i := 1) (v := ?_) rfl (by kernel_rfl) (by kernel_rfl) (by kernel_rfl) (of_decide_eq_true (by kernel_rfl)) (fun _ _ _ h => h) (by rfl) (fun w5 hS5 => ?_) HSC ?_
  rotate_left
  · clear hS5
    go_simp
    try rfl
  try simp only [Act.put, List.setIfInBounds_toArray, List.set_cons_zero, List.set_cons_succ]
  refine Rg.Upto.takeA (i := 2) (v := ?_) rfl (by kernel_rfl) (by kernel_rfl) (by kernel_rfl) (of_decide_eq_true (by kernel_rfl)) (fun _ _ _ h => h) (by rfl) (fun w5 hS5 => ?_) HSC ?_
  rotate_left
  · clear hS5
    go_simp
    try rfl
  try simp only [Act.put, List.setIfInBounds_toArray, List.set_cons_zero, List.set_cons_succ]
  refine Rg.Upto.takeA (i := 3) (v := ?_) rfl (by kernel_rfl) (by kernel_rfl) (by kernel_rfl) (of_decide_eq_true (by kernel_rfl)) (fun _ _ _ h => h) (by rfl) (fun w5 hS5 => ?_) HSC ?_
  rotate_left
  · have x3 := (Hp.blk_cell hS5 3 (v := .pointer (some ⟨m, 0, none⟩)) rfl).1
    have x1 := (Hp.blk_cell hS5 1 rfl).1
    clear hS5
    go_simp
    try rfl
  try simp only [Act.put, List.setIfInBounds_toArray, List.set_cons_zero, List.set_cons_succ]
  refine Rg.Upto.takeA (i := 4) (v := ?_) rfl (by kernel_rfl) (by kernel_rfl) (by kernel_rfl) (of_decide_eq_true (by kernel_rfl)) (fun _ _ _ h => h) (by rfl) (fun w5 hS5 => ?_) HSC ?_
  rotate_left
  · clear hS5
    go_simp
    try rfl
  try simp only [Act.put, List.setIfInBounds_toArray, List.set_cons_zero, List.set_cons_succ]
  refine Rg.Upto.takeA (i := 5) (v := ?_) rfl (by kernel_rfl) (by kernel_rfl) (by kernel_rfl) (of_decide_eq_true (by kernel_rfl)) (fun _ _ _ h => h) (by rfl) (fun w5 hS5 => ?_) HSC ?_
  rotate_left
  · clear hS5
    go_simp
    try rfl
  try simp only [Act.put, List.setIfInBounds_toArray, List.set_cons_zero, List.set_cons_succ]
  refine Rg.Upto.takeA (i := 6) (v := ?_) rfl (by kernel_rfl) (by kernel_rfl) (by kernel_rfl) (of_decide_eq_true (by kernel_rfl)) (fun _ _ _ h => h) (by rfl) (fun w5 hS5 => ?_) HSC ?_
  rotate_left
  · clear hS5
    go_simp
    try rfl
  try simp only [Act.put, List.setIfInBounds_toArray, List.set_cons_zero, List.set_cons_succ]
  refine Rg.Upto.takeA (i := 7) (v := ?_) rfl (by kernel_rfl) (by kernel_rfl) (by kernel_rfl) (of_decide_eq_true (by kernel_rfl)) (fun _ _ _ h => h) (by rfl) (fun w5 hS5 => ?_) HSC ?_
  rotate_left
  · have x3 := (Hp.blk_cell hS5 3 (v := .pointer (some ⟨m, 0, none⟩)) rfl).1
    have x1 := (Hp.blk_cell hS5 1 rfl).1
    clear hS5
    go_simp
    try rfl
  try simp only [Act.put, List.setIfInBounds_toArray, List.set_cons_zero, List.set_cons_succ]
  refine Rg.Upto.one (i := 8) rfl (by kernel_rfl) (by rfl) (fun KK hK => ?_)
  go_simp
  have hm := HST.out _ m HBM.out HS2.out HM1.out
  (with_reducible refine hm.mono ?_)
  clear hm
  rintro e w3 ⟨rfl, hX, hS, hb, hF⟩
  have HQ := Lib.hid (HQ1.out.step HM1.out (by decide) hF)
  have HK := Lib.hid (HK1.out.fr hF HS2.out (fun m2 z h1 h2 => by
    rcases h2 with h2 | h2
    · exact absurd h2 (blk_ne h1 HM1.out (by decide))
    · exact h2))
  have HM := Lib.hid hX
  have HS := Lib.hid hS
  replace HB := Lib.hid (HB.out.trans hb)
  clear HQ1 HK1 HM1 HS2 hX hS hb hF HSC
  refine hK.out _ _ HQ.out.blk ?_
  clear hK KK
  try simp only [Act.put, List.setIfInBounds_toArray, List.set_cons_zero, List.set_cons_succ]
  refine Rg.Upto.done (by kernel_rfl) ?_
  cases ov with
  | false =>
    go_wp2_with (fail)
    go_end0
    exact ⟨rfl, ⟨some m, vt, by rw [if_neg (by simp)]; exact HQ.out, .inr ⟨rfl, m, rfl, HBM.out, HM.out⟩⟩, HS.out, HB.out, HK.out⟩
  | true =>
    obtain ⟨x0, -⟩ := Hp.blk_cell HQ.out.blk 0 rfl
    obtain ⟨x1, -⟩ := Hp.blk_cell HQ.out.blk 1 rfl
    obtain ⟨x2, -⟩ := Hp.blk_cell HQ.out.blk 2 rfl
    obtain ⟨x3, f3⟩ := Hp.blk_cell HQ.out.blk 3 (v := .pointer (some ⟨m, 0, none⟩)) rfl
    obtain ⟨x4, -⟩ := Hp.blk_cell HQ.out.blk 4 rfl
    obtain ⟨x5, -⟩ := Hp.blk_cell HQ.out.blk 5 rfl
    obtain ⟨x6, f6⟩ := Hp.blk_cell HQ.out.blk 6 rfl
    obtain ⟨x7, -⟩ := Hp.blk_cell HQ.out.blk 7 rfl
    have hat := HOV.out rfl
    rcases Bool.eq_false_or_eq_true y'.empty with he | he
    · have hval : Calls Try.prog 29 #[.pointer (some ⟨m, 0, none⟩)] w3 fun e w' => e = .returned (.int .u64 0) ∧ w' = w3 := by
        have := pop_value w3 m y' HM.out
        rw [if_neg (by rw [he]; simp)] at this
        exact this
      have HV := Lib.hid hval
      have HE : Hid (Calls Try.prog 28 #[.pointer (some ⟨m, 0, none⟩)] w3 fun e w' => e = .returned (.bool true) ∧ w' = w3) := Lib.hid (by have := pop_empty w3 m y' HM.out; rw [he] at this; exact this)
      have HEE := Lib.hid he
      clear hval he hat
      go_wp2_with (first
        | (go_at_call 28; ((with_reducible refine HE.out.mono ?_); rintro e w9 ⟨rfl, hw⟩; obtain rfl := hw.symm))
        | (go_at_call 29; ((with_reducible refine HV.out.mono ?_); rintro e w9 ⟨rfl, hw⟩; obtain rfl := hw.symm)))
      go_end0
      have hq2 := HQ.out.pop none
      refine ⟨rfl, ⟨none, vt, by rw [if_neg (by rw [HEE.out]; simp)]; exact hq2, .inl ⟨rfl, rfl⟩⟩, HS.out.other (not_touch HQ.out.blk HQ.out.nx (by decide)) 3 _, HB.out.setCell (p := ⟨x, 3, none⟩) HQ.out.bx _, HK.out.set HQ.out.blk 3 _⟩
    · have hval : Calls Try.prog 29 #[.pointer (some ⟨m, 0, none⟩)] w3.drew fun e w' => e = .returned (.int .u64 y'.v) ∧ w' = w3.drew := by
        have := pop_value w3.drew m y' HM.out
        rw [if_pos ⟨hat, he⟩] at this
        exact this
      have HV := Lib.hid hval
      have HE : Hid (Calls Try.prog 28 #[.pointer (some ⟨m, 0, none⟩)] w3 fun e w' => e = .returned (.bool false) ∧ w' = w3) := Lib.hid (by have := pop_empty w3 m y' HM.out; rw [he] at this; exact this)
      have HEE := Lib.hid he
      clear hval he hat
      go_upto_region 6 with (first
        | (go_at_call 28; ((with_reducible refine HE.out.mono ?_); rintro e w9 ⟨rfl, hw⟩; obtain rfl := hw.symm)))
      clear x0 x1 x2 x3 x4 x5 x6 x7 f3 f6
      have HQ1 : Hid (IsQ B w3.drew x p c cc pu (some m) next put taken ok vp vt) := Lib.hid (HQ.out.fr ((Fr.refl (fun _ => False) _).drew) id (fun _ _ => id) (fun _ _ => id))
      replace HS := Lib.hid (HS.out.still ((Fr.refl _ _).drew))
      replace HB := Lib.hid HB.out.drew
      have HK1 : Hid (KeptU w w3.drew) := Lib.hid HK.out
      have HM1 : Hid (IsPop w3.drew m y') := Lib.hid HM.out
      clear HQ HK HM
      refine Rg.Upto.start (fun w' => w'.heap[x]? = some (.cells #[.pointer (some ⟨p, 0, none⟩), .pointer (some ⟨c, 0, none⟩), pv pu, pv (some m), .int .u64 next, vp, vt, .bool ok] 50 (0, 0))) 14 (by kernel_rfl) HQ1.out.blk (fun HSC => ?_)
      refine Rg.Upto.take (i := 0) (v := ?_) rfl (by kernel_rfl) (by kernel_rfl) (by kernel_rfl) (by kernel_rfl) (fun _ _ _ h => h) (by rfl) (fun w5 hS5 => ?_) HSC ?_
      rotate_left
      · clear hS5
        go_simp
        try rfl
      try simp only [Act.put, List.setIfInBounds_toArray, List.set_cons_zero, List.set_cons_succ]
      refine Rg.Upto.take (i := 1) (v := ?_) rfl (by kernel_rfl) (by kernel_rfl) (by kernel_rfl) (by kernel_rfl) (fun _ _ _ h => h) (by rfl) (fun w5 hS5 => ?_) HSC ?_
      rotate_left
      · clear hS5
        go_simp
        try rfl
      try simp only [Act.put, List.setIfInBounds_toArray, List.set_cons_zero, List.set_cons_succ]
      refine Rg.Upto.take (i := 2) (v := ?_) rfl (by kernel_rfl) (by kernel_rfl) (by kernel_rfl) (by kernel_rfl) (fun _ _ _ h => h) (by rfl) (fun w5 hS5 => ?_) HSC ?_
      rotate_left
      · clear hS5
        go_simp
        try rfl
      try simp only [Act.put, List.setIfInBounds_toArray, List.set_cons_zero, List.set_cons_succ]
      refine Rg.Upto.take (i := 3) (v := ?_) rfl (by kernel_rfl) (by kernel_rfl) (by kernel_rfl) (by kernel_rfl) (fun _ _ _ h => h) (by rfl) (fun w5 hS5 => ?_) HSC ?_
      rotate_left
      · clear hS5
        go_simp
        try rfl
      try simp only [Act.put, List.setIfInBounds_toArray, List.set_cons_zero, List.set_cons_succ]
      refine Rg.Upto.take (i := 4) (v := ?_) rfl (by kernel_rfl) (by kernel_rfl) (by kernel_rfl) (by kernel_rfl) (fun _ _ _ h => h) (by rfl) (fun w5 hS5 => ?_) HSC ?_
      rotate_left
      · have x3 := (Hp.blk_cell hS5 3 (v := .pointer (some ⟨m, 0, none⟩)) rfl).1
        have x6 := (Hp.blk_cell hS5 6 rfl).1
        clear hS5
        go_simp
        try rfl
      try simp only [Act.put, List.setIfInBounds_toArray, List.set_cons_zero, List.set_cons_succ]
      refine Rg.Upto.take (i := 5) (v := ?_) rfl (by kernel_rfl) (by kernel_rfl) (by kernel_rfl) (by kernel_rfl) (fun _ _ _ h => h) (by rfl) (fun w5 hS5 => ?_) HSC ?_
      rotate_left
      · clear hS5
        go_simp
        try rfl
      try simp only [Act.put, List.setIfInBounds_toArray, List.set_cons_zero, List.set_cons_succ]
      refine Rg.Upto.take (i := 6) (v := ?_) rfl (by kernel_rfl) (by kernel_rfl) (by kernel_rfl) (by kernel_rfl) (fun _ _ _ h => h) (by rfl) (fun w5 hS5 => ?_) HSC ?_
      rotate_left
      · clear hS5
        go_simp
        try rfl
      try simp only [Act.put, List.setIfInBounds_toArray, List.set_cons_zero, List.set_cons_succ]
      refine Rg.Upto.take (i := 7) (v := ?_) rfl (by kernel_rfl) (by kernel_rfl) (by kernel_rfl) (by kernel_rfl) (fun _ _ _ h => h) (by rfl) (fun w5 hS5 => ?_) HSC ?_
      rotate_left
      · clear hS5
        go_simp
        try rfl
      try simp only [Act.put, List.setIfInBounds_toArray, List.set_cons_zero, List.set_cons_succ]
      refine Rg.Upto.take (i := 8) (v := ?_) rfl (by kernel_rfl) (by kernel_rfl) (by kernel_rfl) (by kernel_rfl) (fun _ _ _ h => h) (by rfl) (fun w5 hS5 => ?_) HSC ?_
      rotate_left
      · have x3 := (Hp.blk_cell hS5 3 (v := .pointer (some ⟨m, 0, none⟩)) rfl).1
        have x6 := (Hp.blk_cell hS5 6 rfl).1
        clear hS5
        go_simp
        try rfl
      try simp only [Act.put, List.setIfInBounds_toArray, List.set_cons_zero, List.set_cons_succ]
      refine Rg.Upto.one (i := 9) rfl (by kernel_rfl) (by rfl) (fun KK hK => ?_)
      go_simp
      (with_reducible refine HV.out.mono ?_)
      rintro e w9 ⟨rfl, hw⟩
      obtain rfl := hw.symm
      refine hK.out _ _ HSC ?_
      clear hK KK HV
      try simp only [Act.put, List.setIfInBounds_toArray, List.set_cons_zero, List.set_cons_succ]
      refine Rg.Upto.one (i := 10) rfl (by kernel_rfl) (by rfl) (fun KK hK => ?_)
      go_simp
      refine hK.out _ _ (Hp.blk_alloc HSC _) ?_
      clear hK KK
      try simp only [Act.put, List.setIfInBounds_toArray, List.set_cons_zero, List.set_cons_succ]
      obtain ⟨i0, hi0, hz0, hz1, hz2⟩ := info_parts infoU
      have hBr : B ≤ w3.drew.heap.size := HS.out.base.1
      have hcl : cc < w3.drew.heap.size := HS.out.lt.2
      refine Rg.Upto.one (i := 11) rfl (by kernel_rfl) (by rfl) (fun KK hK => ?_)
      refine wp_append_lies _ (.tmp 42) (.tmp 48) 33 rfl B 24 i0 _ 1 8 Try.underlying33 hi0 hz0 hz1 hz2 rfl (by omega) vt taken.length (taken.map (Value.int .u64)) rfl (own_fr2 HQ1.out.rt ((Fr.refl (fun _ => False) _).alloc _) (fun _ _ => id)) ⟨w3.drew.heap.size, 0, none⟩ 1 1 [.int .u64 y'.v] rfl rfl
        (World.news_of_block (cs := #[.int .u64 y'.v]) (t := 24) (fr := (0, 0)) (Hp.blk_new w3.drew _)) (by simp [Value.oneCell']) (by omega) (by have := HL.out; unfold maxLen; omega) (by have := HL.out; omega) (by show B ≤ (w3.drew.alloc _).heap.size; have : w3.drew.heap.size = w3.heap.size := rfl; simp; omega) (w3.drew.heap.size + 1) (by show (w3.drew.alloc _).heap.size = _; simp) ?_
      intro gg cap w4 own4 grow4 at4 lt4
      have e0 : Fr (fun k => vt.ownBlock = some k) w3.drew w4 := ((Fr.refl _ w3.drew).alloc _).grown grow4 (fun k hk => .inl hk)
      have fX := e0.blk HQ1.out.blk (fun z => row_ne HQ1.out.rt HQ1.out.blk (by decide) x z rfl)
      refine hK.out _ _ fX ?_
      clear hK KK
      try simp only [Act.put, List.setIfInBounds_toArray, List.set_cons_zero, List.set_cons_succ]
      refine Rg.Upto.one (i := 12) rfl (by kernel_rfl) (by rfl) (fun KK hK => ?_)
      go_simp
      refine hK.out _ _ fX ?_
      clear hK KK
      try simp only [Act.put, List.setIfInBounds_toArray, List.set_cons_zero, List.set_cons_succ]
      refine Rg.Upto.one (i := 13) rfl (by kernel_rfl) (by rfl) (fun KK hK => ?_)
      go_simp
      refine hK.out _ _ fX ?_
      clear hK KK
      try simp only [Act.put, List.setIfInBounds_toArray, List.set_cons_zero, List.set_cons_succ]
      obtain ⟨x6, f6⟩ := Hp.blk_cell fX 6 rfl
      refine Rg.Upto.last rfl (by kernel_rfl) (by kernel_rfl) (by rfl) (fun KK hK => ?_)
      go_simp
      refine hK.out _ _ ?_
      clear hK KK HSC x6 f6
      have HQ := Lib.hid (HQ1.out.took y'.v gg cap own4 e0 (by rcases at4 with h | h; exact .inl h; exact .inr (by have : w3.drew.heap.size = w3.heap.size := rfl; omega)) lt4 hcl)
      have hS4 := HS.out.fr e0 (fun k _ hk => row_far HQ1.out.rt k hk (HQ1.out.st k hk).1)
      have HS3 := Lib.hid (hS4.other (not_touch fX HQ1.out.nx (by decide)) 6 (.slice (some ⟨gg, 0, none⟩) (taken.length + 1) cap))
      have HK2 := Lib.hid ((HK1.out.row HQ1.out.rt e0).set fX 6 (.slice (some ⟨gg, 0, none⟩) (taken.length + 1) cap))
      have HB2 := Lib.hid ((HB.out.trans (b := w3.drew) (c := w4) ⟨e0.os, e0.tape, e0.output, e0.size, fun k hk => e0.block k (Nat.lt_of_lt_of_le hk hBr) (fun z => by have := (row_blk HQ1.out.rt k z).2; omega)⟩).setCell (p := ⟨x, 6, none⟩) HQ1.out.bx (.slice (some ⟨gg, 0, none⟩) (taken.length + 1) cap))
      clear HQ1 HS HK1 HB e0 fX own4 grow4 at4 lt4 hS4 hBr hcl HM1
      generalize (w4.setCell ⟨x, 6, none⟩ (.slice (some ⟨gg, 0, none⟩) (taken.length + 1) cap)) = wq at HQ HS3 HK2 HB2 ⊢
      obtain ⟨x0, -⟩ := Hp.blk_cell HQ.out.blk 0 rfl
      obtain ⟨x1, -⟩ := Hp.blk_cell HQ.out.blk 1 rfl
      obtain ⟨x2, -⟩ := Hp.blk_cell HQ.out.blk 2 rfl
      obtain ⟨x3, f3⟩ := Hp.blk_cell HQ.out.blk 3 (v := .pointer (some ⟨m, 0, none⟩)) rfl
      obtain ⟨x4, -⟩ := Hp.blk_cell HQ.out.blk 4 rfl
      obtain ⟨x5, -⟩ := Hp.blk_cell HQ.out.blk 5 rfl
      obtain ⟨x6, f6⟩ := Hp.blk_cell HQ.out.blk 6 rfl
      obtain ⟨x7, -⟩ := Hp.blk_cell HQ.out.blk 7 rfl
      go_wp2_with (fail)
      go_end0
      have hq2 := HQ.out.pop none
      refine ⟨rfl, ⟨none, _, by rw [if_pos ⟨rfl, HEE.out⟩]; exact hq2, .inl ⟨rfl, rfl⟩⟩, HS3.out.other (not_touch HQ.out.blk HQ.out.nx (by decide)) 3 _, HB2.out.setCell (p := ⟨x, 3, none⟩) HQ.out.bx _, HK2.out.set HQ.out.blk 3 _⟩

set_option maxHeartbeats 4000000 in
set_option maxRecDepth 100000 in
theorem takes_some {B : Nat} {w : World} {a cc : Nat} {s : AS} {ps : List (Nat × Int × Bool)} {x p c : Nat} {pu : Option Nat} {next : Int} {put taken : List Int} {ok : Bool} {vp vt : Value} {who : Int} {g : Bool} {P T R : Int} {m : Nat}
    (hs : Sys B w a cc s ps) (i : Nat) (hi : ps[i]? = some (c, who, g)) (hq : IsQ B w x p c cc pu (some m) next put taken ok vp vt) (y y' : OS) (s' : AS) (psF : List (Nat × Int × Bool)) (ov : Bool)
    (hBm : B ≤ m) (hm : IsPop w m y)
    (hr : ring_right.f P T R 0 = some true) (hlen : taken.length ≤ 100000)
    (hstep : ∀ (wx : World) (m : Nat), B ≤ m → Sys B wx a cc s (ps.set i (c, who, true)) → IsPop wx m y →
      Calls Try.prog 26 #[.pointer (some ⟨m, 0, none⟩), .pointer (some ⟨c, 0, none⟩)] wx fun e w' => e = .returned (.bool ov) ∧ IsPop w' m y' ∧ Sys B w' a cc s' psF ∧ Below B wx w' ∧ Fr (fun k => k = m ∨ Touch cc wx k) wx w')
    (hov : ov = true → y'.at_ = 4) :
    Calls Try.prog 18 #[.pointer (some ⟨x, 0, none⟩), .agg #[.int .i64 P, .int .i64 T, .int .i64 R]] w fun e w' => e = .returned (.tuple #[]) ∧ AfterT B w a cc s' psF x p c pu next put taken ok vp y' ov w' := by
  have HS := Lib.hid (hs.alloc (.cells #[.int .i64 P, .int .i64 T, .int .i64 R] 23))
  have HI := Lib.hid hi
  have HQ := Lib.hid (hq.below ((Below.refl _ w).alloc (Nat.le_refl _) (.cells #[.int .i64 P, .int .i64 T, .int .i64 R] 23)))
  have KB : Hid ((w.alloc (.cells #[.int .i64 P, .int .i64 T, .int .i64 R] 23)).heap[w.heap.size]? = some (.cells #[.int .i64 P, .int .i64 T, .int .i64 R] 23 (0, 0))) := Lib.hid (Hp.blk_new w _)
  have HB := Lib.hid ((Below.refl B w).alloc hs.base.1 (.cells #[.int .i64 P, .int .i64 T, .int .i64 R] 23))
  have HK : Hid (KeptU w (w.alloc (.cells #[.int .i64 P, .int .i64 T, .int .i64 R] 23))) := Lib.hid (fun m z h => Hp.blk_alloc h _)
  have HR := Lib.hid hr
  have HL := Lib.hid hlen
  have HST := Lib.hid hstep
  have HOV := Lib.hid hov
  have HM := Lib.hid (show IsPop (w.alloc (.cells #[.int .i64 P, .int .i64 T, .int .i64 R] 23)) m y from Hp.blk_alloc hm (.cells #[.int .i64 P, .int .i64 T, .int .i64 R] 23))
  have HBM := Lib.hid hBm
  clear hm hBm
  clear hs hi hq hr hlen hstep hov
  obtain ⟨c0, -⟩ := Hp.blk_cell KB.out 0 rfl
  obtain ⟨c1, -⟩ := Hp.blk_cell KB.out 1 rfl
  obtain ⟨c2, -⟩ := Hp.blk_cell KB.out 2 rfl
  go_enter Try.func18, Try.ntmps18
  obtain ⟨x0, -⟩ := Hp.blk_cell HQ.out.blk 0 rfl
  obtain ⟨x1, -⟩ := Hp.blk_cell HQ.out.blk 1 rfl
  obtain ⟨x2, -⟩ := Hp.blk_cell HQ.out.blk 2 rfl
  obtain ⟨x3, f3⟩ := Hp.blk_cell HQ.out.blk 3 (v := .pointer (some ⟨m, 0, none⟩)) rfl
  obtain ⟨x4, -⟩ := Hp.blk_cell HQ.out.blk 4 rfl
  obtain ⟨x5, -⟩ := Hp.blk_cell HQ.out.blk 5 rfl
  obtain ⟨x6, f6⟩ := Hp.blk_cell HQ.out.blk 6 rfl
  obtain ⟨x7, -⟩ := Hp.blk_cell HQ.out.blk 7 rfl
  go_upto_region 4 with ((go_at_call 43; ((have hm := HS.out.grant i HI.out); (with_reducible refine hm.mono ?_); clear hm; rintro e w2 ⟨rfl, hD⟩; clear x0 x1 x2 x3 x4 x5 x6 x7 f3 f6; replace HM := Lib.hid (hD.fr.blk HM.out (not_touch HM.out (blk_ne HM.out (sys_cel HS.out) (by decide)) (by decide))); replace HQ := Lib.hid (HQ.out.touch hD.fr); replace HK := Lib.hid (HK.out.fr hD.fr HS.out (fun _ _ _ z => z)); (have HS2 := Lib.hid hD.sys); replace HB := Lib.hid (HB.out.trans hD.bel); clear hD HS)))
  replace HS2 := Lib.hid (HS2.out.still ((Fr.refl _ _).drew))
  replace HB := Lib.hid HB.out.drew
  have HM1 : Hid (IsPop w2.drew m y) := Lib.hid HM.out
  have HQ1 : Hid (IsQ B w2.drew x p c cc pu (some m) next put taken ok vp vt) := Lib.hid (HQ.out.fr ((Fr.refl (fun _ => False) _).drew) id (fun _ _ => id) (fun _ _ => id))
  have HK1 : Hid (KeptU w w2.drew) := Lib.hid HK.out
  clear HM HQ HK
  refine Rg.Upto.start (fun w' => w'.heap[x]? = some (.cells #[.pointer (some ⟨p, 0, none⟩), .pointer (some ⟨c, 0, none⟩), pv pu, pv (some m), .int .u64 next, vp, vt, .bool ok] 50 (0, 0))) 1000 (by kernel_rfl) HQ1.out.blk (fun HSC => ?_)
  refine Rg.Upto.takeA (i := 0) (v := ?_) rfl (by kernel_rfl) (by kernel_rfl) (by kernel_rfl) (of_decide_eq_true (by kernel_rfl)) (fun _ _ _ h => h) (by rfl) (fun w5 hS5 => ?_) HSC ?_
  rotate_left
  · clear hS5
    go_simp
    try rfl
  try simp only [Act.put, List.setIfInBounds_toArray, List.set_cons_zero, List.set_cons_succ]
  refine Rg.Upto.takeA (i := 1) (v := ?_) rfl (by kernel_rfl) (by kernel_rfl) (by kernel_rfl) (of_decide_eq_true (by kernel_rfl)) (fun _ _ _ h => h) (by rfl) (fun w5 hS5 => ?_) HSC ?_
  rotate_left
  · clear hS5
    go_simp
    try rfl
  try simp only [Act.put, List.setIfInBounds_toArray, List.set_cons_zero, List.set_cons_succ]
  refine Rg.Upto.takeA (i := 2) (v := ?_) rfl (by kernel_rfl) (by kernel_rfl) (by kernel_rfl) (of_decide_eq_true (by kernel_rfl)) (fun _ _ _ h => h) (by rfl) (fun w5 hS5 => ?_) HSC ?_
  rotate_left
  · clear hS5
    go_simp
    try rfl
  try simp only [Act.put, List.setIfInBounds_toArray, List.set_cons_zero, List.set_cons_succ]
  refine Rg.Upto.takeA (i := 3) (v := ?_) rfl (by kernel_rfl) (by kernel_rfl) (by kernel_rfl) (of_decide_eq_true (by kernel_rfl)) (fun _ _ _ h => h) (by rfl) (fun w5 hS5 => ?_) HSC ?_
  rotate_left
  · have x3 := (Hp.blk_cell hS5 3 (v := .pointer (some ⟨m, 0, none⟩)) rfl).1
    have x1 := (Hp.blk_cell hS5 1 rfl).1
    clear hS5
    go_simp
    try rfl
  try simp only [Act.put, List.setIfInBounds_toArray, List.set_cons_zero, List.set_cons_succ]
  refine Rg.Upto.takeA (i := 4) (v := ?_) rfl (by kernel_rfl) (by kernel_rfl) (by kernel_rfl) (of_decide_eq_true (by kernel_rfl)) (fun _ _ _ h => h) (by rfl) (fun w5 hS5 => ?_) HSC ?_
  rotate_left
  · clear hS5
    go_simp
    try rfl
  try simp only [Act.put, List.setIfInBounds_toArray, List.set_cons_zero, List.set_cons_succ]
  refine Rg.Upto.takeA (i := 5) (v := ?_) rfl (by kernel_rfl) (by kernel_rfl) (by kernel_rfl) (of_decide_eq_true (by kernel_rfl)) (fun _ _ _ h => h) (by rfl) (fun w5 hS5 => ?_) HSC ?_
  rotate_left
  · clear hS5
    go_simp
    try rfl
  try simp only [Act.put, List.setIfInBounds_toArray, List.set_cons_zero, List.set_cons_succ]
  refine Rg.Upto.takeA (i := 6) (v := ?_) rfl (by kernel_rfl) (by kernel_rfl) (by kernel_rfl) (of_decide_eq_true (by kernel_rfl)) (fun _ _ _ h => h) (by rfl) (fun w5 hS5 => ?_) HSC ?_
  rotate_left
  · clear hS5
    go_simp
    try rfl
  try simp only [Act.put, List.setIfInBounds_toArray, List.set_cons_zero, List.set_cons_succ]
  refine Rg.Upto.takeA (i := 7) (v := ?_) rfl (by kernel_rfl) (by kernel_rfl) (by kernel_rfl) (of_decide_eq_true (by kernel_rfl)) (fun _ _ _ h => h) (by rfl) (fun w5 hS5 => ?_) HSC ?_
  rotate_left
  · have x3 := (Hp.blk_cell hS5 3 (v := .pointer (some ⟨m, 0, none⟩)) rfl).1
    have x1 := (Hp.blk_cell hS5 1 rfl).1
    clear hS5
    go_simp
    try rfl
  try simp only [Act.put, List.setIfInBounds_toArray, List.set_cons_zero, List.set_cons_succ]
  refine Rg.Upto.one (i := 8) rfl (by kernel_rfl) (by rfl) (fun KK hK => ?_)
  go_simp
  have hm := HST.out _ m HBM.out HS2.out HM1.out
  (with_reducible refine hm.mono ?_)
  clear hm
  rintro e w3 ⟨rfl, hX, hS, hb, hF⟩
  have HQ := Lib.hid (HQ1.out.step HM1.out (by decide) hF)
  have HK := Lib.hid (HK1.out.fr hF HS2.out (fun m2 z h1 h2 => by
    rcases h2 with h2 | h2
    · exact absurd h2 (blk_ne h1 HM1.out (by decide))
    · exact h2))
  have HM := Lib.hid hX
  have HS := Lib.hid hS
  replace HB := Lib.hid (HB.out.trans hb)
  clear HQ1 HK1 HM1 HS2 hX hS hb hF HSC
  refine hK.out _ _ HQ.out.blk ?_
  clear hK KK
  try simp only [Act.put, List.setIfInBounds_toArray, List.set_cons_zero, List.set_cons_succ]
  refine Rg.Upto.done (by kernel_rfl) ?_
  cases ov with
  | false =>
    go_wp2_with (fail)
    go_end0
    exact ⟨rfl, ⟨some m, vt, by rw [if_neg (by simp)]; exact HQ.out, .inr ⟨rfl, m, rfl, HBM.out, HM.out⟩⟩, HS.out, HB.out, HK.out⟩
  | true =>
    obtain ⟨x0, -⟩ := Hp.blk_cell HQ.out.blk 0 rfl
    obtain ⟨x1, -⟩ := Hp.blk_cell HQ.out.blk 1 rfl
    obtain ⟨x2, -⟩ := Hp.blk_cell HQ.out.blk 2 rfl
    obtain ⟨x3, f3⟩ := Hp.blk_cell HQ.out.blk 3 (v := .pointer (some ⟨m, 0, none⟩)) rfl
    obtain ⟨x4, -⟩ := Hp.blk_cell HQ.out.blk 4 rfl
    obtain ⟨x5, -⟩ := Hp.blk_cell HQ.out.blk 5 rfl
    obtain ⟨x6, f6⟩ := Hp.blk_cell HQ.out.blk 6 rfl
    obtain ⟨x7, -⟩ := Hp.blk_cell HQ.out.blk 7 rfl
    have hat := HOV.out rfl
    rcases Bool.eq_false_or_eq_true y'.empty with he | he
    · have hval : Calls Try.prog 29 #[.pointer (some ⟨m, 0, none⟩)] w3 fun e w' => e = .returned (.int .u64 0) ∧ w' = w3 := by
        have := pop_value w3 m y' HM.out
        rw [if_neg (by rw [he]; simp)] at this
        exact this
      have HV := Lib.hid hval
      have HE : Hid (Calls Try.prog 28 #[.pointer (some ⟨m, 0, none⟩)] w3 fun e w' => e = .returned (.bool true) ∧ w' = w3) := Lib.hid (by have := pop_empty w3 m y' HM.out; rw [he] at this; exact this)
      have HEE := Lib.hid he
      clear hval he hat
      go_wp2_with (first
        | (go_at_call 28; ((with_reducible refine HE.out.mono ?_); rintro e w9 ⟨rfl, hw⟩; obtain rfl := hw.symm))
        | (go_at_call 29; ((with_reducible refine HV.out.mono ?_); rintro e w9 ⟨rfl, hw⟩; obtain rfl := hw.symm)))
      go_end0
      have hq2 := HQ.out.pop none
      refine ⟨rfl, ⟨none, vt, by rw [if_neg (by rw [HEE.out]; simp)]; exact hq2, .inl ⟨rfl, rfl⟩⟩, HS.out.other (not_touch HQ.out.blk HQ.out.nx (by decide)) 3 _, HB.out.setCell (p := ⟨x, 3, none⟩) HQ.out.bx _, HK.out.set HQ.out.blk 3 _⟩
    · have hval : Calls Try.prog 29 #[.pointer (some ⟨m, 0, none⟩)] w3.drew fun e w' => e = .returned (.int .u64 y'.v) ∧ w' = w3.drew := by
        have := pop_value w3.drew m y' HM.out
        rw [if_pos ⟨hat, he⟩] at this
        exact this
      have HV := Lib.hid hval
      have HE : Hid (Calls Try.prog 28 #[.pointer (some ⟨m, 0, none⟩)] w3 fun e w' => e = .returned (.bool false) ∧ w' = w3) := Lib.hid (by have := pop_empty w3 m y' HM.out; rw [he] at this; exact this)
      have HEE := Lib.hid he
      clear hval he hat
      go_upto_region 6 with (first
        | (go_at_call 28; ((with_reducible refine HE.out.mono ?_); rintro e w9 ⟨rfl, hw⟩; obtain rfl := hw.symm)))
      clear x0 x1 x2 x3 x4 x5 x6 x7 f3 f6
      have HQ1 : Hid (IsQ B w3.drew x p c cc pu (some m) next put taken ok vp vt) := Lib.hid (HQ.out.fr ((Fr.refl (fun _ => False) _).drew) id (fun _ _ => id) (fun _ _ => id))
      replace HS := Lib.hid (HS.out.still ((Fr.refl _ _).drew))
      replace HB := Lib.hid HB.out.drew
      have HK1 : Hid (KeptU w w3.drew) := Lib.hid HK.out
      have HM1 : Hid (IsPop w3.drew m y') := Lib.hid HM.out
      clear HQ HK HM
      refine Rg.Upto.start (fun w' => w'.heap[x]? = some (.cells #[.pointer (some ⟨p, 0, none⟩), .pointer (some ⟨c, 0, none⟩), pv pu, pv (some m), .int .u64 next, vp, vt, .bool ok] 50 (0, 0))) 14 (by kernel_rfl) HQ1.out.blk (fun HSC => ?_)
      refine Rg.Upto.take (i := 0) (v := ?_) rfl (by kernel_rfl) (by kernel_rfl) (by kernel_rfl) (by kernel_rfl) (fun _ _ _ h => h) (by rfl) (fun w5 hS5 => ?_) HSC ?_
      rotate_left
      · clear hS5
        go_simp
        try rfl
      try simp only [Act.put, List.setIfInBounds_toArray, List.set_cons_zero, List.set_cons_succ]
      refine Rg.Upto.take (i := 1) (v := ?_) rfl (by kernel_rfl) (by kernel_rfl) (by kernel_rfl) (by kernel_rfl) (fun _ _ _ h => h) (by rfl) (fun w5 hS5 => ?_) HSC ?_
      rotate_left
      · clear hS5
        go_simp
        try rfl
      try simp only [Act.put, List.setIfInBounds_toArray, List.set_cons_zero, List.set_cons_succ]
      refine Rg.Upto.take (i := 2) (v := ?_) rfl (by kernel_rfl) (by kernel_rfl) (by kernel_rfl) (by kernel_rfl) (fun _ _ _ h => h) (by rfl) (fun w5 hS5 => ?_) HSC ?_
      rotate_left
      · clear hS5
        go_simp
        try rfl
      try simp only [Act.put, List.setIfInBounds_toArray, List.set_cons_zero, List.set_cons_succ]
      refine Rg.Upto.take (i := 3) (v := ?_) rfl (by kernel_rfl) (by kernel_rfl) (by kernel_rfl) (by kernel_rfl) (fun _ _ _ h => h) (by rfl) (fun w5 hS5 => ?_) HSC ?_
      rotate_left
      · clear hS5
        go_simp
        try rfl
      try simp only [Act.put, List.setIfInBounds_toArray, List.set_cons_zero, List.set_cons_succ]
      refine Rg.Upto.take (i := 4) (v := ?_) rfl (by kernel_rfl) (by kernel_rfl) (by kernel_rfl) (by kernel_rfl) (fun _ _ _ h => h) (by rfl) (fun w5 hS5 => ?_) HSC ?_
      rotate_left
      · have x3 := (Hp.blk_cell hS5 3 (v := .pointer (some ⟨m, 0, none⟩)) rfl).1
        have x6 := (Hp.blk_cell hS5 6 rfl).1
        clear hS5
        go_simp
        try rfl
      try simp only [Act.put, List.setIfInBounds_toArray, List.set_cons_zero, List.set_cons_succ]
      refine Rg.Upto.take (i := 5) (v := ?_) rfl (by kernel_rfl) (by kernel_rfl) (by kernel_rfl) (by kernel_rfl) (fun _ _ _ h => h) (by rfl) (fun w5 hS5 => ?_) HSC ?_
      rotate_left
      · clear hS5
        go_simp
        try rfl
      try simp only [Act.put, List.setIfInBounds_toArray, List.set_cons_zero, List.set_cons_succ]
      refine Rg.Upto.take (i := 6) (v := ?_) rfl (by kernel_rfl) (by kernel_rfl) (by kernel_rfl) (by kernel_rfl) (fun _ _ _ h => h) (by rfl) (fun w5 hS5 => ?_) HSC ?_
      rotate_left
      · clear hS5
        go_simp
        try rfl
      try simp only [Act.put, List.setIfInBounds_toArray, List.set_cons_zero, List.set_cons_succ]
      refine Rg.Upto.take (i := 7) (v := ?_) rfl (by kernel_rfl) (by kernel_rfl) (by kernel_rfl) (by kernel_rfl) (fun _ _ _ h => h) (by rfl) (fun w5 hS5 => ?_) HSC ?_
      rotate_left
      · clear hS5
        go_simp
        try rfl
      try simp only [Act.put, List.setIfInBounds_toArray, List.set_cons_zero, List.set_cons_succ]
      refine Rg.Upto.take (i := 8) (v := ?_) rfl (by kernel_rfl) (by kernel_rfl) (by kernel_rfl) (by kernel_rfl) (fun _ _ _ h => h) (by rfl) (fun w5 hS5 => ?_) HSC ?_
      rotate_left
      · have x3 := (Hp.blk_cell hS5 3 (v := .pointer (some ⟨m, 0, none⟩)) rfl).1
        have x6 := (Hp.blk_cell hS5 6 rfl).1
        clear hS5
        go_simp
        try rfl
      try simp only [Act.put, List.setIfInBounds_toArray, List.set_cons_zero, List.set_cons_succ]
      refine Rg.Upto.one (i := 9) rfl (by kernel_rfl) (by rfl) (fun KK hK => ?_)
      go_simp
      (with_reducible refine HV.out.mono ?_)
      rintro e w9 ⟨rfl, hw⟩
      obtain rfl := hw.symm
      refine hK.out _ _ HSC ?_
      clear hK KK HV
      try simp only [Act.put, List.setIfInBounds_toArray, List.set_cons_zero, List.set_cons_succ]
      refine Rg.Upto.one (i := 10) rfl (by kernel_rfl) (by rfl) (fun KK hK => ?_)
      go_simp
      refine hK.out _ _ (Hp.blk_alloc HSC _) ?_
      clear hK KK
      try simp only [Act.put, List.setIfInBounds_toArray, List.set_cons_zero, List.set_cons_succ]
      obtain ⟨i0, hi0, hz0, hz1, hz2⟩ := info_parts infoU
      have hBr : B ≤ w3.drew.heap.size := HS.out.base.1
      have hcl : cc < w3.drew.heap.size := HS.out.lt.2
      refine Rg.Upto.one (i := 11) rfl (by kernel_rfl) (by rfl) (fun KK hK => ?_)
      refine wp_append_lies _ (.tmp 42) (.tmp 48) 33 rfl B 24 i0 _ 1 8 Try.underlying33 hi0 hz0 hz1 hz2 rfl (by omega) vt taken.length (taken.map (Value.int .u64)) rfl (own_fr2 HQ1.out.rt ((Fr.refl (fun _ => False) _).alloc _) (fun _ _ => id)) ⟨w3.drew.heap.size, 0, none⟩ 1 1 [.int .u64 y'.v] rfl rfl
        (World.news_of_block (cs := #[.int .u64 y'.v]) (t := 24) (fr := (0, 0)) (Hp.blk_new w3.drew _)) (by simp [Value.oneCell']) (by omega) (by have := HL.out; unfold maxLen; omega) (by have := HL.out; omega) (by show B ≤ (w3.drew.alloc _).heap.size; have : w3.drew.heap.size = w3.heap.size := rfl; simp; omega) (w3.drew.heap.size + 1) (by show (w3.drew.alloc _).heap.size = _; simp) ?_
      intro gg cap w4 own4 grow4 at4 lt4
      have e0 : Fr (fun k => vt.ownBlock = some k) w3.drew w4 := ((Fr.refl _ w3.drew).alloc _).grown grow4 (fun k hk => .inl hk)
      have fX := e0.blk HQ1.out.blk (fun z => row_ne HQ1.out.rt HQ1.out.blk (by decide) x z rfl)
      refine hK.out _ _ fX ?_
      clear hK KK
      try simp only [Act.put, List.setIfInBounds_toArray, List.set_cons_zero, List.set_cons_succ]
      refine Rg.Upto.one (i := 12) rfl (by kernel_rfl) (by rfl) (fun KK hK => ?_)
      go_simp
      refine hK.out _ _ fX ?_
      clear hK KK
      try simp only [Act.put, List.setIfInBounds_toArray, List.set_cons_zero, List.set_cons_succ]
      refine Rg.Upto.one (i := 13) rfl (by kernel_rfl) (by rfl) (fun KK hK => ?_)
      go_simp
      refine hK.out _ _ fX ?_
      clear hK KK
      try simp only [Act.put, List.setIfInBounds_toArray, List.set_cons_zero, List.set_cons_succ]
      obtain ⟨x6, f6⟩ := Hp.blk_cell fX 6 rfl
      refine Rg.Upto.last rfl (by kernel_rfl) (by kernel_rfl) (by rfl) (fun KK hK => ?_)
      go_simp
      refine hK.out _ _ ?_
      clear hK KK HSC x6 f6
      have HQ := Lib.hid (HQ1.out.took y'.v gg cap own4 e0 (by rcases at4 with h | h; exact .inl h; exact .inr (by have : w3.drew.heap.size = w3.heap.size := rfl; omega)) lt4 hcl)
      have hS4 := HS.out.fr e0 (fun k _ hk => row_far HQ1.out.rt k hk (HQ1.out.st k hk).1)
      have HS3 := Lib.hid (hS4.other (not_touch fX HQ1.out.nx (by decide)) 6 (.slice (some ⟨gg, 0, none⟩) (taken.length + 1) cap))
      have HK2 := Lib.hid ((HK1.out.row HQ1.out.rt e0).set fX 6 (.slice (some ⟨gg, 0, none⟩) (taken.length + 1) cap))
      have HB2 := Lib.hid ((HB.out.trans (b := w3.drew) (c := w4) ⟨e0.os, e0.tape, e0.output, e0.size, fun k hk => e0.block k (Nat.lt_of_lt_of_le hk hBr) (fun z => by have := (row_blk HQ1.out.rt k z).2; omega)⟩).setCell (p := ⟨x, 6, none⟩) HQ1.out.bx (.slice (some ⟨gg, 0, none⟩) (taken.length + 1) cap))
      clear HQ1 HS HK1 HB e0 fX own4 grow4 at4 lt4 hS4 hBr hcl HM1
      generalize (w4.setCell ⟨x, 6, none⟩ (.slice (some ⟨gg, 0, none⟩) (taken.length + 1) cap)) = wq at HQ HS3 HK2 HB2 ⊢
      obtain ⟨x0, -⟩ := Hp.blk_cell HQ.out.blk 0 rfl
      obtain ⟨x1, -⟩ := Hp.blk_cell HQ.out.blk 1 rfl
      obtain ⟨x2, -⟩ := Hp.blk_cell HQ.out.blk 2 rfl
      obtain ⟨x3, f3⟩ := Hp.blk_cell HQ.out.blk 3 (v := .pointer (some ⟨m, 0, none⟩)) rfl
      obtain ⟨x4, -⟩ := Hp.blk_cell HQ.out.blk 4 rfl
      obtain ⟨x5, -⟩ := Hp.blk_cell HQ.out.blk 5 rfl
      obtain ⟨x6, f6⟩ := Hp.blk_cell HQ.out.blk 6 rfl
      obtain ⟨x7, -⟩ := Hp.blk_cell HQ.out.blk 7 rfl
      go_wp2_with (fail)
      go_end0
      have hq2 := HQ.out.pop none
      refine ⟨rfl, ⟨none, _, by rw [if_pos ⟨rfl, HEE.out⟩]; exact hq2, .inl ⟨rfl, rfl⟩⟩, HS3.out.other (not_touch HQ.out.blk HQ.out.nx (by decide)) 3 _, HB2.out.setCell (p := ⟨x, 3, none⟩) HQ.out.bx _, HK2.out.set HQ.out.blk 3 _⟩
end Go.Proofs.Ytdcikbhfoplkmaa.Ar

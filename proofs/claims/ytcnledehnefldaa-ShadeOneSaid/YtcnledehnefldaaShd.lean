/- A machine that shades an object, as blocks; what makes one, what it tells, a step of it; its model. -/
import Derived.Test.YtcnledehnefldaaMrk
namespace Go.Proofs.Ytcnledehnefldaa.Ar
open Go Go.RowKit Go.Proofs.Ytcnledehnefldaa.Hp Go.Proofs.Ytcnledehnefldaa.PH
open Go.Proofs.YtcnledehnefldaaW.PrintWords (shl shr)
set_option linter.unusedVariables false
set_option linter.unusedSimpArgs false

structure SS where
  P : Int
  T : Int
  R : Int
  t : Int
  ref : Int
  at_ : Int
  lost : Bool
  done : Bool
  fresh : Bool
  pat : Int
  hd : Int
  tl : Int
  full : Bool
def SS.ms (x : SS) : MS := ⟨x.P, x.T, x.R, x.ref, x.done, x.fresh⟩
def SS.ps (x : SS) : PS := ⟨x.P, x.T, x.R, x.t, x.ref, x.pat, x.hd, x.tl, x.full⟩
def ShB (w : World) (m mk : Nat) (pu : Option Addr) (at_ : Int) (lost : Bool) : Prop := w.heap[m]? = some (.cells #[.pointer (some ⟨mk, 0, none⟩), .pointer pu, .int .i64 at_, .bool lost] 98 (0, 0))
structure IsShade (w : World) (m mk pu : Nat) (x : SS) : Prop where
  blk : ShB w m mk (some ⟨pu, 0, none⟩) x.at_ x.lost
  mrk : IsMark w mk x.ms
  psh : IsPush w pu x.ps
theorem ShB.below {w w' : World} {m mk : Nat} {pu : Option Addr} {at_ : Int} {lost : Bool} (h : ShB w m mk pu at_ lost) (hb : Below w.heap.size w w') : ShB w' m mk pu at_ lost := (hb.block m (blk_lt h)).trans h
theorem IsShade.below {w w' : World} {m mk pu : Nat} {x : SS} (h : IsShade w m mk pu x) (hb : Below w.heap.size w w') : IsShade w' m mk pu x := ⟨h.blk.below hb, h.mrk.below hb, h.psh.below hb⟩
theorem IsShade.fr {S : Nat → Prop} {w w' : World} {m mk pu : Nat} {x : SS} (h : IsShade w m mk pu x) (hF : Fr S w w') (h1 : ¬ S m) (h2 : ¬ S mk) (h3 : ¬ S pu) : IsShade w' m mk pu x := ⟨hF.blk h.blk h1, hF.blk h.mrk h2, hF.blk h.psh h3⟩
theorem IsShade.ne {w : World} {m mk pu : Nat} {x : SS} (h : IsShade w m mk pu x) : m ≠ mk ∧ m ≠ pu ∧ mk ≠ pu := ⟨blk_ne h.blk h.mrk (by decide), blk_ne h.blk h.psh (by decide), blk_ne h.mrk h.psh (by decide)⟩
theorem IsShade.free {B : Nat} {w : World} {a c m mk pu : Nat} {s : AS} {ps : List (Nat × Int × Bool)} {x : SS} (h : IsShade w m mk pu x) (hs : Sys B w a c s ps) : ¬ Touch c w m ∧ ¬ Touch c w mk ∧ ¬ Touch c w pu :=
  ⟨not_touch h.blk (blk_ne h.blk (sys_cel hs) (by decide)) (by decide), not_touch h.mrk (blk_ne h.mrk (sys_cel hs) (by decide)) (by decide), not_touch h.psh (blk_ne h.psh (sys_cel hs) (by decide)) (by decide)⟩
theorem fr_wide {S S' : Nat → Prop} {w w' : World} (hF : Fr S w w') (h : ∀ k, S k → S' k) : Fr S' w w' := hF.mono fun k _ hk => h k hk

theorem shade_over (w : World) (m mk : Nat) (pu : Option Addr) (at_ : Int) (lost : Bool) (h : ShB w m mk pu at_ lost) : Calls Try.prog 18 #[.pointer (some ⟨m, 0, none⟩)] w fun e w' => e = .returned (.bool (at_ == 3)) ∧ w' = w := by
  obtain ⟨c2, -⟩ := Hp.blk_cell h 2 rfl
  clear h
  go_enter Try.func18, Try.ntmps18
  go_wp2
  go_ret
  exact ⟨rfl, rfl⟩
theorem shade_over_nil (w : World) : Calls Try.prog 18 #[.pointer none] w fun e w' => e = .returned (.bool true) ∧ w' = w := by
  go_enter Try.func18, Try.ntmps18
  go_wp2
  go_ret
  exact ⟨rfl, rfl⟩

theorem shade_lost (w : World) (m mk : Nat) (pu : Option Addr) (at_ : Int) (lost : Bool) (h : ShB w m mk pu at_ lost) : Calls Try.prog 20 #[.pointer (some ⟨m, 0, none⟩)] w fun e w' => e = .returned (.bool lost) ∧ w' = w := by
  obtain ⟨c3, -⟩ := Hp.blk_cell h 3 rfl
  clear h
  go_enter Try.func20, Try.ntmps20
  go_wp2
  go_ret
  exact ⟨rfl, rfl⟩
theorem shade_lost_nil (w : World) : Calls Try.prog 20 #[.pointer none] w fun e w' => e = .returned (.bool false) ∧ w' = w := by
  go_enter Try.func20, Try.ntmps20
  go_wp2
  go_ret
  exact ⟨rfl, rfl⟩

theorem shade_fresh (w : World) (m mk : Nat) (pu : Option Addr) (at_ : Int) (lost : Bool) (h : ShB w m mk pu at_ lost) (s : MS) (hm : IsMark w mk s) : Calls Try.prog 19 #[.pointer (some ⟨m, 0, none⟩)] w fun e w' => e = .returned (.bool s.fresh) ∧ w' = w := by
  obtain ⟨c0, -⟩ := Hp.blk_cell h 0 rfl
  have hf := mark_fresh w mk s hm
  clear h hm
  go_enter Try.func19, Try.ntmps19
  go_wp2_with (first | (go_at_call 16; (refine hf.mono ?_; clear hf; rintro e w2 ⟨rfl, hw⟩; obtain rfl := hw.symm)))
  go_ret
  exact ⟨rfl, rfl⟩
theorem shade_fresh_nil (w : World) : Calls Try.prog 19 #[.pointer none] w fun e w' => e = .returned (.bool false) ∧ w' = w := by
  go_enter Try.func19, Try.ntmps19
  go_wp2
  go_ret
  exact ⟨rfl, rfl⟩

theorem shade_held (w : World) (m mk : Nat) (pu : Option Addr) (at_ : Int) (lost : Bool) (h : ShB w m mk pu at_ lost) (s : MS) (hm : IsMark w mk s) : Calls Try.prog 21 #[.pointer (some ⟨m, 0, none⟩)] w fun e w' => e = .returned (.int .u64 (if at_ = 1 ∨ at_ = 2 then s.ref else 0)) ∧ w' = w := by
  obtain ⟨c0, -⟩ := Hp.blk_cell h 0 rfl
  obtain ⟨c2, -⟩ := Hp.blk_cell h 2 rfl
  obtain ⟨d3, -⟩ := Hp.blk_cell hm 3 (v := .int .u64 s.ref) rfl
  clear h hm
  by_cases h1 : at_ = 1
  · subst h1
    go_enter Try.func21, Try.ntmps21
    go_wp2
    go_ret
    exact ⟨rfl, rfl⟩
  · by_cases h2 : at_ = 2
    · subst h2
      clear h1
      go_enter Try.func21, Try.ntmps21
      go_wp2
      go_ret
      exact ⟨rfl, rfl⟩
    · have e1 : (at_ != 1) = true := by simp [h1]
      have e2 : (at_ != 2) = true := by simp [h2]
      have e3 : (if at_ = 1 ∨ at_ = 2 then s.ref else 0) = 0 := if_neg (fun z => z.elim h1 h2)
      rw [e3]
      clear h1 h2 e3
      go_enter Try.func21, Try.ntmps21
      go_wp2
      go_ret
      exact ⟨rfl, rfl⟩
theorem shade_held_nil (w : World) : Calls Try.prog 21 #[.pointer none] w fun e w' => e = .returned (.int .u64 0) ∧ w' = w := by
  go_enter Try.func21, Try.ntmps21
  go_wp2
  go_ret
  exact ⟨rfl, rfl⟩

set_option maxRecDepth 100000 in
theorem shade_step_nil (w : World) (p : Value) : Calls Try.prog 17 #[.pointer none, p] w fun e w' => e = .returned (.bool true) ∧ w' = w := by
  go_enter Try.func17, Try.ntmps17
  go_wp2
  go_ret
  exact ⟨rfl, rfl⟩
set_option maxRecDepth 100000 in
theorem shade_step_over (w : World) (m mk : Nat) (pu : Option Addr) (lost : Bool) (p : Value) (h : ShB w m mk pu 3 lost) : Calls Try.prog 17 #[.pointer (some ⟨m, 0, none⟩), p] w fun e w' => e = .returned (.bool true) ∧ w' = w := by
  obtain ⟨c2, -⟩ := Hp.blk_cell h 2 rfl
  clear h
  go_enter Try.func17, Try.ntmps17
  go_wp2
  go_ret
  exact ⟨rfl, rfl⟩
set_option maxRecDepth 100000 in
theorem shade_step_shut {B : Nat} {w : World} {a c p : Nat} {s : AS} {who : Int} {ps : List (Nat × Int × Bool)} (hs : Sys B w a c s ps) (i : Nat) (hi : ps[i]? = some (p, who, false)) (m mk : Nat) (pu : Option Addr) (at_ : Int) (lost : Bool) (h : ShB w m mk pu at_ lost) (h4 : at_ ≠ 3) :
    Calls Try.prog 17 #[.pointer (some ⟨m, 0, none⟩), .pointer (some ⟨p, 0, none⟩)] w fun e w' => e = .returned (.bool false) ∧ w' = w := by
  obtain ⟨c2, -⟩ := Hp.blk_cell h 2 rfl
  have h5 : (at_ == 3) = false := by simp [h4]
  have hm := hs.open_ i hi
  clear h h4
  go_enter Try.func17, Try.ntmps17
  go_wp2_with (first | (go_at_call 47; (refine hm.mono ?_; clear hm; rintro e w2 ⟨rfl, rfl⟩)))
  go_ret
  exact ⟨rfl, rfl⟩

set_option maxHeartbeats 2000000 in
set_option maxRecDepth 100000 in
theorem shade_mark_fresh {B : Nat} {w : World} {a c p : Nat} {s s' : AS} {who : Int} {ps : List (Nat × Int × Bool)} (hs : Sys B w a c s ps) (i : Nat) (hi : ps[i]? = some (p, who, true)) (m mk pu : Nat) (hB : B ≤ m) (lost : Bool) (h : ShB w m mk (some ⟨pu, 0, none⟩) 0 lost) (x : MS) (hx : x.fresh = true) (hne : m ≠ mk)
    (hstep : Calls Try.prog 14 #[.pointer (some ⟨mk, 0, none⟩), .pointer (some ⟨p, 0, none⟩)] w fun e w' => e = .returned (.bool true) ∧ IsMark w' mk x ∧ Sys B w' a c s' (ps.set i (p, who, false)) ∧ Below B w w' ∧ Fr (fun k => k = mk ∨ Touch c w k) w w') :
    Calls Try.prog 17 #[.pointer (some ⟨m, 0, none⟩), .pointer (some ⟨p, 0, none⟩)] w fun e w' => e = .returned (.bool false) ∧ ShB w' m mk (some ⟨pu, 0, none⟩) 1 lost ∧ IsMark w' mk x ∧ Sys B w' a c s' (ps.set i (p, who, false)) ∧ Below B w w' ∧ Fr (fun k => k = m ∨ k = mk ∨ Touch c w k) w w' := by
  have HO := Lib.hid (hs.open_ i hi)
  have HS := Lib.hid hs
  have HBm := Lib.hid hB
  have HX := Lib.hid hx
  have HNE := Lib.hid hne
  have HST := Lib.hid hstep
  have HK := Lib.hid h
  obtain ⟨c0, -⟩ := Hp.blk_cell h 0 rfl
  obtain ⟨c2, -⟩ := Hp.blk_cell h 2 rfl
  clear hs hi hB hx hstep h hne
  go_enter Try.func17, Try.ntmps17
  go_upto_region 8 with (first
    | (go_at_call 47; (refine HO.out.mono ?_; clear HO; rintro e w2 ⟨rfl, rfl⟩))
    | (go_at_call 14; (refine HST.out.mono ?_; clear HST; rintro e w3 ⟨rfl, hM, hS3, hb, hF⟩)))
  have HK3 := Lib.hid (hF.blk HK.out (fun z => z.elim HNE.out (not_touch HK.out (blk_ne HK.out (sys_cel HS.out) (by decide)) (by decide))))
  have HM := Lib.hid hM
  have HS3 := Lib.hid hS3
  have HB := Lib.hid hb
  have HF : Hid (Fr (fun k => k = m ∨ k = mk ∨ Touch c w2 k) w2 w3) := Lib.hid (fr_wide hF (fun k hk => hk.elim (fun e => .inr (.inl e)) (fun e => .inr (.inr e))))
  clear hM hS3 hb hF HS HK c0 c2
  obtain ⟨c2, d2⟩ := Hp.blk_cell HK3.out 2 rfl
  have HK4 := Lib.hid (Hp.blk_set HK3.out 2 (.int .i64 3))
  have HM4 : Hid (IsMark (w3.setCell ⟨m, 2, none⟩ (.int .i64 3)) mk x) := Lib.hid (((Fr.refl (fun k => k = m) w3).setCell ⟨m, 2, none⟩ (.int .i64 3) (.inl rfl)).blk HM.out (fun e => HNE.out e.symm))
  have hnt := not_touch HK3.out (blk_ne HK3.out (sys_cel HS3.out) (by decide)) (by decide)
  have HS4 : Hid (Sys B (w3.setCell ⟨m, 2, none⟩ (.int .i64 3)) a c s' (ps.set i (p, who, false))) := Lib.hid (HS3.out.other hnt 2 _)
  replace HB := Lib.hid (HB.out.setCell (p := ⟨m, 2, none⟩) HBm.out (.int .i64 3))
  replace HF := Lib.hid (HF.out.setCell ⟨m, 2, none⟩ (.int .i64 3) (.inl (.inl rfl)))
  clear hnt HK3 HM HS3
  go_upto_region 9 with (fail)
  clear c2 d2
  generalize w3.setCell ⟨m, 2, none⟩ (.int .i64 3) = w4 at HK4 HM4 HS4 HB HF ⊢
  obtain ⟨c0, -⟩ := Hp.blk_cell HK4.out 0 rfl
  obtain ⟨c2, d2⟩ := Hp.blk_cell HK4.out 2 rfl
  have hfr := mark_fresh w4 mk x HM4.out
  rw [HX.out] at hfr
  have HK5 := Lib.hid (Hp.blk_set HK4.out 2 (.int .i64 1))
  obtain ⟨c2', -⟩ := Hp.blk_cell HK5.out 2 rfl
  go_wp2_with (first | (go_at_call 16; (refine hfr.mono ?_; clear hfr; rintro e w5 ⟨rfl, hw⟩; obtain rfl := hw.symm)))
  go_ret
  have hnt := not_touch HK4.out (blk_ne HK4.out (sys_cel HS4.out) (by decide)) (by decide)
  exact ⟨rfl, HK5.out, ((Fr.refl (fun k => k = m) w4).setCell ⟨m, 2, none⟩ (.int .i64 1) (.inl rfl)).blk HM4.out (fun e => HNE.out e.symm), HS4.out.other hnt 2 _, HB.out.setCell (p := ⟨m, 2, none⟩) HBm.out _, HF.out.setCell ⟨m, 2, none⟩ _ (.inl (.inl rfl))⟩

set_option maxHeartbeats 2000000 in
set_option maxRecDepth 100000 in
theorem shade_mark_stale {B : Nat} {w : World} {a c p : Nat} {s s' : AS} {who : Int} {ps : List (Nat × Int × Bool)} (hs : Sys B w a c s ps) (i : Nat) (hi : ps[i]? = some (p, who, true)) (m mk pu : Nat) (hB : B ≤ m) (lost : Bool) (h : ShB w m mk (some ⟨pu, 0, none⟩) 0 lost) (x : MS) (hx : x.fresh = false) (hne : m ≠ mk)
    (hstep : Calls Try.prog 14 #[.pointer (some ⟨mk, 0, none⟩), .pointer (some ⟨p, 0, none⟩)] w fun e w' => e = .returned (.bool true) ∧ IsMark w' mk x ∧ Sys B w' a c s' (ps.set i (p, who, false)) ∧ Below B w w' ∧ Fr (fun k => k = mk ∨ Touch c w k) w w') :
    Calls Try.prog 17 #[.pointer (some ⟨m, 0, none⟩), .pointer (some ⟨p, 0, none⟩)] w fun e w' => e = .returned (.bool true) ∧ ShB w' m mk (some ⟨pu, 0, none⟩) 3 lost ∧ IsMark w' mk x ∧ Sys B w' a c s' (ps.set i (p, who, false)) ∧ Below B w w' ∧ Fr (fun k => k = m ∨ k = mk ∨ Touch c w k) w w' := by
  have HO := Lib.hid (hs.open_ i hi)
  have HS := Lib.hid hs
  have HBm := Lib.hid hB
  have HX := Lib.hid hx
  have HNE := Lib.hid hne
  have HST := Lib.hid hstep
  have HK := Lib.hid h
  obtain ⟨c0, -⟩ := Hp.blk_cell h 0 rfl
  obtain ⟨c2, -⟩ := Hp.blk_cell h 2 rfl
  clear hs hi hB hx hstep h hne
  go_enter Try.func17, Try.ntmps17
  go_upto_region 8 with (first
    | (go_at_call 47; (refine HO.out.mono ?_; clear HO; rintro e w2 ⟨rfl, rfl⟩))
    | (go_at_call 14; (refine HST.out.mono ?_; clear HST; rintro e w3 ⟨rfl, hM, hS3, hb, hF⟩)))
  have HK3 := Lib.hid (hF.blk HK.out (fun z => z.elim HNE.out (not_touch HK.out (blk_ne HK.out (sys_cel HS.out) (by decide)) (by decide))))
  have HM := Lib.hid hM
  have HS3 := Lib.hid hS3
  have HB := Lib.hid hb
  have HF : Hid (Fr (fun k => k = m ∨ k = mk ∨ Touch c w2 k) w2 w3) := Lib.hid (fr_wide hF (fun k hk => hk.elim (fun e => .inr (.inl e)) (fun e => .inr (.inr e))))
  clear hM hS3 hb hF HS HK c0 c2
  obtain ⟨c2, d2⟩ := Hp.blk_cell HK3.out 2 rfl
  have HK4 := Lib.hid (Hp.blk_set HK3.out 2 (.int .i64 3))
  have HM4 : Hid (IsMark (w3.setCell ⟨m, 2, none⟩ (.int .i64 3)) mk x) := Lib.hid (((Fr.refl (fun k => k = m) w3).setCell ⟨m, 2, none⟩ (.int .i64 3) (.inl rfl)).blk HM.out (fun e => HNE.out e.symm))
  have hnt := not_touch HK3.out (blk_ne HK3.out (sys_cel HS3.out) (by decide)) (by decide)
  have HS4 : Hid (Sys B (w3.setCell ⟨m, 2, none⟩ (.int .i64 3)) a c s' (ps.set i (p, who, false))) := Lib.hid (HS3.out.other hnt 2 _)
  replace HB := Lib.hid (HB.out.setCell (p := ⟨m, 2, none⟩) HBm.out (.int .i64 3))
  replace HF := Lib.hid (HF.out.setCell ⟨m, 2, none⟩ (.int .i64 3) (.inl (.inl rfl)))
  clear hnt HK3 HM HS3
  go_upto_region 9 with (fail)
  clear c2 d2
  generalize w3.setCell ⟨m, 2, none⟩ (.int .i64 3) = w4 at HK4 HM4 HS4 HB HF ⊢
  obtain ⟨c0, -⟩ := Hp.blk_cell HK4.out 0 rfl
  obtain ⟨c2, d2⟩ := Hp.blk_cell HK4.out 2 rfl
  have hfr := mark_fresh w4 mk x HM4.out
  rw [HX.out] at hfr
  go_wp2_with (first | (go_at_call 16; (refine hfr.mono ?_; clear hfr; rintro e w5 ⟨rfl, hw⟩; obtain rfl := hw.symm)))
  go_ret
  exact ⟨rfl, HK4.out, HM4.out, HS4.out, HB.out, HF.out⟩

set_option maxHeartbeats 2000000 in
set_option maxRecDepth 100000 in
theorem shade_push_on {B : Nat} {w : World} {a c p : Nat} {s s' : AS} {who : Int} {ps : List (Nat × Int × Bool)} (hs : Sys B w a c s ps) (i : Nat) (hi : ps[i]? = some (p, who, true)) (m mk pu : Nat) (hB : B ≤ m) (lost : Bool) (h : ShB w m mk (some ⟨pu, 0, none⟩) 1 lost) (x : PS) (y : MS) (hy : IsMark w mk y) (hne : m ≠ mk) (hnp : m ≠ pu) (hmp : mk ≠ pu)
    (hstep : Calls Try.prog 51 #[.pointer (some ⟨pu, 0, none⟩), .pointer (some ⟨p, 0, none⟩)] w fun e w' => e = .returned (.bool false) ∧ IsPush w' pu x ∧ Sys B w' a c s' (ps.set i (p, who, false)) ∧ Below B w w' ∧ Fr (fun k => k = pu ∨ Touch c w k) w w') :
    Calls Try.prog 17 #[.pointer (some ⟨m, 0, none⟩), .pointer (some ⟨p, 0, none⟩)] w fun e w' => e = .returned (.bool false) ∧ ShB w' m mk (some ⟨pu, 0, none⟩) 1 lost ∧ IsPush w' pu x ∧ IsMark w' mk y ∧ Sys B w' a c s' (ps.set i (p, who, false)) ∧ Below B w w' ∧ Fr (fun k => k = m ∨ k = mk ∨ k = pu ∨ Touch c w k) w w' := by
  have HO := Lib.hid (hs.open_ i hi)
  have HS := Lib.hid hs
  have HBm := Lib.hid hB
  have HNE := Lib.hid hne
  have HNP := Lib.hid hnp
  have HMP := Lib.hid hmp
  have HST := Lib.hid hstep
  have HK := Lib.hid h
  have HY := Lib.hid hy
  obtain ⟨c1, -⟩ := Hp.blk_cell h 1 rfl
  obtain ⟨c2, -⟩ := Hp.blk_cell h 2 rfl
  clear hs hi hB hstep h hne hnp hmp hy
  go_enter Try.func17, Try.ntmps17
  go_upto_region 19 with (first
    | (go_at_call 47; (refine HO.out.mono ?_; clear HO; rintro e w2 ⟨rfl, rfl⟩))
    | (go_at_call 51; (refine HST.out.mono ?_; clear HST; rintro e w3 ⟨rfl, hP, hS3, hb, hF⟩)))
  have HK3 := Lib.hid (hF.blk HK.out (fun z => z.elim HNP.out (not_touch HK.out (blk_ne HK.out (sys_cel HS.out) (by decide)) (by decide))))
  have HM3 := Lib.hid (hF.blk HY.out (fun z => z.elim HMP.out (not_touch HY.out (blk_ne HY.out (sys_cel HS.out) (by decide)) (by decide))))
  have HP3 := Lib.hid hP
  have HS3 := Lib.hid hS3
  have HB := Lib.hid hb
  have HF : Hid (Fr (fun k => k = m ∨ k = mk ∨ k = pu ∨ Touch c w2 k) w2 w3) := Lib.hid (fr_wide hF (fun k hk => hk.elim (fun e => .inr (.inr (.inl e))) (fun e => .inr (.inr (.inr e)))))
  clear hP hS3 hb hF HS HK HY c1 c2
  obtain ⟨c2, d2⟩ := Hp.blk_cell HK3.out 2 rfl
  go_wp2_with (fail)
  go_ret
  exact ⟨rfl, HK3.out, HP3.out, HM3.out, HS3.out, HB.out, HF.out⟩

set_option maxHeartbeats 2000000 in
set_option maxRecDepth 100000 in
theorem shade_push_end {B : Nat} {w : World} {a c p : Nat} {s s' : AS} {who : Int} {ps : List (Nat × Int × Bool)} (hs : Sys B w a c s ps) (i : Nat) (hi : ps[i]? = some (p, who, true)) (m mk pu : Nat) (hB : B ≤ m) (lost : Bool) (h : ShB w m mk (some ⟨pu, 0, none⟩) 1 lost) (x : PS) (y : MS) (hy : IsMark w mk y) (hx : x.full = false) (hne : m ≠ mk) (hnp : m ≠ pu) (hmp : mk ≠ pu)
    (hstep : Calls Try.prog 51 #[.pointer (some ⟨pu, 0, none⟩), .pointer (some ⟨p, 0, none⟩)] w fun e w' => e = .returned (.bool true) ∧ IsPush w' pu x ∧ Sys B w' a c s' (ps.set i (p, who, false)) ∧ Below B w w' ∧ Fr (fun k => k = pu ∨ Touch c w k) w w') :
    Calls Try.prog 17 #[.pointer (some ⟨m, 0, none⟩), .pointer (some ⟨p, 0, none⟩)] w fun e w' => e = .returned (.bool true) ∧ ShB w' m mk (some ⟨pu, 0, none⟩) 3 lost ∧ IsPush w' pu x ∧ IsMark w' mk y ∧ Sys B w' a c s' (ps.set i (p, who, false)) ∧ Below B w w' ∧ Fr (fun k => k = m ∨ k = mk ∨ k = pu ∨ Touch c w k) w w' := by
  have HO := Lib.hid (hs.open_ i hi)
  have HS := Lib.hid hs
  have HBm := Lib.hid hB
  have HX := Lib.hid hx
  have HNE := Lib.hid hne
  have HNP := Lib.hid hnp
  have HMP := Lib.hid hmp
  have HST := Lib.hid hstep
  have HK := Lib.hid h
  have HY := Lib.hid hy
  obtain ⟨c1, -⟩ := Hp.blk_cell h 1 rfl
  obtain ⟨c2, -⟩ := Hp.blk_cell h 2 rfl
  clear hs hi hB hx hstep h hne hnp hmp hy
  go_enter Try.func17, Try.ntmps17
  go_upto_region 13 with (first
    | (go_at_call 47; (refine HO.out.mono ?_; clear HO; rintro e w2 ⟨rfl, rfl⟩))
    | (go_at_call 51; (refine HST.out.mono ?_; clear HST; rintro e w3 ⟨rfl, hP, hS3, hb, hF⟩)))
  have HK3 := Lib.hid (hF.blk HK.out (fun z => z.elim HNP.out (not_touch HK.out (blk_ne HK.out (sys_cel HS.out) (by decide)) (by decide))))
  have HM3 := Lib.hid (hF.blk HY.out (fun z => z.elim HMP.out (not_touch HY.out (blk_ne HY.out (sys_cel HS.out) (by decide)) (by decide))))
  have HP3 := Lib.hid hP
  have HS3 := Lib.hid hS3
  have HB := Lib.hid hb
  have HF : Hid (Fr (fun k => k = m ∨ k = mk ∨ k = pu ∨ Touch c w2 k) w2 w3) := Lib.hid (fr_wide hF (fun k hk => hk.elim (fun e => .inr (.inr (.inl e))) (fun e => .inr (.inr (.inr e)))))
  clear hP hS3 hb hF HS HK HY c1 c2
  obtain ⟨c2, d2⟩ := Hp.blk_cell HK3.out 2 rfl
  obtain ⟨c1, -⟩ := Hp.blk_cell HK3.out 1 rfl
  have HK4 := Lib.hid (Hp.blk_set HK3.out 2 (.int .i64 3))
  have HP4 : Hid (IsPush (w3.setCell ⟨m, 2, none⟩ (.int .i64 3)) pu x) := Lib.hid (((Fr.refl (fun k => k = m) w3).setCell ⟨m, 2, none⟩ (.int .i64 3) (.inl rfl)).blk HP3.out (fun e => HNP.out e.symm))
  have HM4 : Hid (IsMark (w3.setCell ⟨m, 2, none⟩ (.int .i64 3)) mk y) := Lib.hid (((Fr.refl (fun k => k = m) w3).setCell ⟨m, 2, none⟩ (.int .i64 3) (.inl rfl)).blk HM3.out (fun e => HNE.out e.symm))
  have hnt := not_touch HK3.out (blk_ne HK3.out (sys_cel HS3.out) (by decide)) (by decide)
  have HS4 : Hid (Sys B (w3.setCell ⟨m, 2, none⟩ (.int .i64 3)) a c s' (ps.set i (p, who, false))) := Lib.hid (HS3.out.other hnt 2 _)
  replace HB := Lib.hid (HB.out.setCell (p := ⟨m, 2, none⟩) HBm.out (.int .i64 3))
  replace HF := Lib.hid (HF.out.setCell ⟨m, 2, none⟩ (.int .i64 3) (.inl (.inl rfl)))
  clear hnt HK3 HM3 HP3 HS3 c1
  go_upto_region 14 with (fail)
  clear c2 d2
  generalize w3.setCell ⟨m, 2, none⟩ (.int .i64 3) = w4 at HK4 HM4 HP4 HS4 HB HF ⊢
  obtain ⟨c1, -⟩ := Hp.blk_cell HK4.out 1 rfl
  obtain ⟨c2, d2⟩ := Hp.blk_cell HK4.out 2 rfl
  have hfr := push_full w4 pu x HP4.out
  rw [HX.out] at hfr
  go_wp2_with (first | (go_at_call 52; (refine hfr.mono ?_; clear hfr; rintro e w5 ⟨rfl, hw⟩; obtain rfl := hw.symm)))
  go_ret
  exact ⟨rfl, HK4.out, HP4.out, HM4.out, HS4.out, HB.out, HF.out⟩

set_option maxHeartbeats 2000000 in
set_option maxRecDepth 100000 in
theorem shade_push_full {B : Nat} {w : World} {a c p : Nat} {s s' : AS} {who : Int} {ps : List (Nat × Int × Bool)} (hs : Sys B w a c s ps) (i : Nat) (hi : ps[i]? = some (p, who, true)) (m mk pu : Nat) (hB : B ≤ m) (lost : Bool) (h : ShB w m mk (some ⟨pu, 0, none⟩) 1 lost) (x : PS) (y : MS) (hy : IsMark w mk y) (hx : x.full = true) (hne : m ≠ mk) (hnp : m ≠ pu) (hmp : mk ≠ pu)
    (hstep : Calls Try.prog 51 #[.pointer (some ⟨pu, 0, none⟩), .pointer (some ⟨p, 0, none⟩)] w fun e w' => e = .returned (.bool true) ∧ IsPush w' pu x ∧ Sys B w' a c s' (ps.set i (p, who, false)) ∧ Below B w w' ∧ Fr (fun k => k = pu ∨ Touch c w k) w w') :
    Calls Try.prog 17 #[.pointer (some ⟨m, 0, none⟩), .pointer (some ⟨p, 0, none⟩)] w fun e w' => e = .returned (.bool false) ∧ ShB w' m mk (some ⟨pu, 0, none⟩) 2 lost ∧ IsPush w' pu x ∧ IsMark w' mk y ∧ Sys B w' a c s' (ps.set i (p, who, false)) ∧ Below B w w' ∧ Fr (fun k => k = m ∨ k = mk ∨ k = pu ∨ Touch c w k) w w' := by
  have HO := Lib.hid (hs.open_ i hi)
  have HS := Lib.hid hs
  have HBm := Lib.hid hB
  have HX := Lib.hid hx
  have HNE := Lib.hid hne
  have HNP := Lib.hid hnp
  have HMP := Lib.hid hmp
  have HST := Lib.hid hstep
  have HK := Lib.hid h
  have HY := Lib.hid hy
  obtain ⟨c1, -⟩ := Hp.blk_cell h 1 rfl
  obtain ⟨c2, -⟩ := Hp.blk_cell h 2 rfl
  clear hs hi hB hx hstep h hne hnp hmp hy
  go_enter Try.func17, Try.ntmps17
  go_upto_region 13 with (first
    | (go_at_call 47; (refine HO.out.mono ?_; clear HO; rintro e w2 ⟨rfl, rfl⟩))
    | (go_at_call 51; (refine HST.out.mono ?_; clear HST; rintro e w3 ⟨rfl, hP, hS3, hb, hF⟩)))
  have HK3 := Lib.hid (hF.blk HK.out (fun z => z.elim HNP.out (not_touch HK.out (blk_ne HK.out (sys_cel HS.out) (by decide)) (by decide))))
  have HM3 := Lib.hid (hF.blk HY.out (fun z => z.elim HMP.out (not_touch HY.out (blk_ne HY.out (sys_cel HS.out) (by decide)) (by decide))))
  have HP3 := Lib.hid hP
  have HS3 := Lib.hid hS3
  have HB := Lib.hid hb
  have HF : Hid (Fr (fun k => k = m ∨ k = mk ∨ k = pu ∨ Touch c w2 k) w2 w3) := Lib.hid (fr_wide hF (fun k hk => hk.elim (fun e => .inr (.inr (.inl e))) (fun e => .inr (.inr (.inr e)))))
  clear hP hS3 hb hF HS HK HY c1 c2
  obtain ⟨c2, d2⟩ := Hp.blk_cell HK3.out 2 rfl
  obtain ⟨c1, -⟩ := Hp.blk_cell HK3.out 1 rfl
  have HK4 := Lib.hid (Hp.blk_set HK3.out 2 (.int .i64 3))
  have HP4 : Hid (IsPush (w3.setCell ⟨m, 2, none⟩ (.int .i64 3)) pu x) := Lib.hid (((Fr.refl (fun k => k = m) w3).setCell ⟨m, 2, none⟩ (.int .i64 3) (.inl rfl)).blk HP3.out (fun e => HNP.out e.symm))
  have HM4 : Hid (IsMark (w3.setCell ⟨m, 2, none⟩ (.int .i64 3)) mk y) := Lib.hid (((Fr.refl (fun k => k = m) w3).setCell ⟨m, 2, none⟩ (.int .i64 3) (.inl rfl)).blk HM3.out (fun e => HNE.out e.symm))
  have hnt := not_touch HK3.out (blk_ne HK3.out (sys_cel HS3.out) (by decide)) (by decide)
  have HS4 : Hid (Sys B (w3.setCell ⟨m, 2, none⟩ (.int .i64 3)) a c s' (ps.set i (p, who, false))) := Lib.hid (HS3.out.other hnt 2 _)
  replace HB := Lib.hid (HB.out.setCell (p := ⟨m, 2, none⟩) HBm.out (.int .i64 3))
  replace HF := Lib.hid (HF.out.setCell ⟨m, 2, none⟩ (.int .i64 3) (.inl (.inl rfl)))
  clear hnt HK3 HM3 HP3 HS3 c1
  go_upto_region 14 with (fail)
  clear c2 d2
  generalize w3.setCell ⟨m, 2, none⟩ (.int .i64 3) = w4 at HK4 HM4 HP4 HS4 HB HF ⊢
  obtain ⟨c1, -⟩ := Hp.blk_cell HK4.out 1 rfl
  obtain ⟨c2, d2⟩ := Hp.blk_cell HK4.out 2 rfl
  have hfr := push_full w4 pu x HP4.out
  rw [HX.out] at hfr
  have HK5 := Lib.hid (Hp.blk_set HK4.out 2 (.int .i64 2))
  obtain ⟨c2', -⟩ := Hp.blk_cell HK5.out 2 rfl
  go_wp2_with (first | (go_at_call 52; (refine hfr.mono ?_; clear hfr; rintro e w5 ⟨rfl, hw⟩; obtain rfl := hw.symm)))
  go_ret
  have hnt := not_touch HK4.out (blk_ne HK4.out (sys_cel HS4.out) (by decide)) (by decide)
  exact ⟨rfl, HK5.out, ((Fr.refl (fun k => k = m) w4).setCell ⟨m, 2, none⟩ (.int .i64 2) (.inl rfl)).blk HP4.out (fun e => HNP.out e.symm), ((Fr.refl (fun k => k = m) w4).setCell ⟨m, 2, none⟩ (.int .i64 2) (.inl rfl)).blk HM4.out (fun e => HNE.out e.symm), HS4.out.other hnt 2 _, HB.out.setCell (p := ⟨m, 2, none⟩) HBm.out _, HF.out.setCell ⟨m, 2, none⟩ _ (.inl (.inl rfl))⟩

set_option maxHeartbeats 2000000 in
set_option maxRecDepth 100000 in
theorem shade_tell {B : Nat} {w : World} {a c p : Nat} {s s' : AS} {who : Int} {ps : List (Nat × Int × Bool)} (hs : Sys B w a c s ps) (i : Nat) (hi : ps[i]? = some (p, who, true)) (m mk pu : Nat) (hB : B ≤ m) (lost : Bool) (h : ShB w m mk (some ⟨pu, 0, none⟩) 2 lost) (x : PS) (y : MS) (hx : IsPush w pu x) (hy : IsMark w mk y) (hl : s.log.length ≤ 1000000) (hne : m ≠ mk) (hnp : m ≠ pu) (hs' : (s.acc true who 2 4 0 1).1 = s') :
    Calls Try.prog 17 #[.pointer (some ⟨m, 0, none⟩), .pointer (some ⟨p, 0, none⟩)] w fun e w' => e = .returned (.bool true) ∧ ShB w' m mk (some ⟨pu, 0, none⟩) 3 true ∧ IsPush w' pu x ∧ IsMark w' mk y ∧ Sys B w' a c s' (ps.set i (p, who, false)) ∧ Below B w w' ∧ Fr (fun k => k = m ∨ k = mk ∨ k = pu ∨ Touch c w k) w w' := by
  have HO := Lib.hid (hs.open_ i hi)
  have HST := hs.store i 4 1 hi hl
  rw [hs'] at HST
  have HS := Lib.hid hs
  have HBm := Lib.hid hB
  have HNE := Lib.hid hne
  have HNP := Lib.hid hnp
  have HK := Lib.hid h
  have HX := Lib.hid hx
  have HY := Lib.hid hy
  obtain ⟨c2, -⟩ := Hp.blk_cell h 2 rfl
  clear hs hi hB hx h hne hnp hy hl hs'
  go_enter Try.func17, Try.ntmps17
  go_upto_region 18 with (first
    | (go_at_call 47; (refine HO.out.mono ?_; clear HO; rintro e w2 ⟨rfl, rfl⟩))
    | (go_at_call 53; (refine HST.mono ?_; clear HST; rintro e w3 ⟨rfl, hD⟩)))
  have HK3 := Lib.hid (hD.fr.blk HK.out (not_touch HK.out (blk_ne HK.out (sys_cel HS.out) (by decide)) (by decide)))
  have HM3 := Lib.hid (hD.fr.blk HY.out (not_touch HY.out (blk_ne HY.out (sys_cel HS.out) (by decide)) (by decide)))
  have HP3 := Lib.hid (hD.fr.blk HX.out (not_touch HX.out (blk_ne HX.out (sys_cel HS.out) (by decide)) (by decide)))
  have HS3 := Lib.hid hD.sys
  have HB := Lib.hid hD.bel
  have HF : Hid (Fr (fun k => k = m ∨ k = mk ∨ k = pu ∨ Touch c w2 k) w2 w3) := Lib.hid (fr_wide hD.fr (fun k hk => .inr (.inr (.inr hk))))
  clear hD HS HK HY HX c2
  obtain ⟨c2, d2⟩ := Hp.blk_cell HK3.out 2 rfl
  obtain ⟨c3, d3⟩ := Hp.blk_cell HK3.out 3 rfl
  have HK4 := Lib.hid (Hp.blk_set HK3.out 3 (.bool true))
  obtain ⟨c2', d2'⟩ := Hp.blk_cell HK4.out 2 rfl
  have HK5 := Lib.hid (Hp.blk_set HK4.out 2 (.int .i64 3))
  obtain ⟨c2'', d2''⟩ := Hp.blk_cell HK5.out 2 rfl
  go_wp2_with (fail)
  go_ret
  have hnt := not_touch HK3.out (blk_ne HK3.out (sys_cel HS3.out) (by decide)) (by decide)
  have fr2 := ((Fr.refl (fun k => k = m) w3).setCell ⟨m, 3, none⟩ (.bool true) (.inl rfl)).setCell ⟨m, 2, none⟩ (.int .i64 3) (.inl rfl)
  exact ⟨rfl, HK5.out, fr2.blk HP3.out (fun e => HNP.out e.symm), fr2.blk HM3.out (fun e => HNE.out e.symm), HS3.out.fr fr2 (fun k _ e => by subst e; exact hnt), (HB.out.setCell (p := ⟨m, 3, none⟩) HBm.out _).setCell (p := ⟨m, 2, none⟩) HBm.out _, (HF.out.setCell ⟨m, 3, none⟩ _ (.inl (.inl rfl))).setCell ⟨m, 2, none⟩ _ (.inl (.inl rfl))⟩
end Go.Proofs.Ytcnledehnefldaa.Ar

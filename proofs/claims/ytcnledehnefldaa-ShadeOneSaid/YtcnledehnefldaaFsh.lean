/- A shade's step as a function of the arena and the machine; a shade that is stepped to its end; shaded is true. -/
import Derived.Test.YtcnledehnefldaaNsh
namespace Go.Proofs.Ytcnledehnefldaa.Ar
open Go Go.RowKit Go.Proofs.Ytcnledehnefldaa.Hp Go.Proofs.Ytcnledehnefldaa.PH
set_option linter.unusedVariables false
set_option linter.unusedSimpArgs false

theorem set_get2 {α : Type} {l : List α} {i : Nat} {x y : α} (h : l[i]? = some x) : (l.set i y)[i]? = some y := by
  obtain ⟨hi, _⟩ := List.getElem?_eq_some_iff.1 h
  rw [List.getElem?_set_self hi]
theorem acc_len2 (t : AS) (g : Bool) (who kind at_ want put : Int) : (t.acc g who kind at_ want put).1.log.length ≤ t.log.length + 1 := by
  unfold AS.acc
  split
  · unfold AS.done
    simp only
    split <;> simp
  · exact Nat.le_succ _
/-- Where a shade's accesses go: its mark's cell and bit; the ring's tail, head and slots. -/
structure Pl where
  q : Int
  b : Int
  qT : Int
  qH : Int
  qS : Int → Int
structure PlOk (L : Pl) (x : SS) : Prop where
  pl : ∃ pg, layout_Plan_Place.f x.P x.T x.R (IntKind.i64.wrap x.ref) = some (pg, L.b) ∧ layout_Plan_Mark.f x.P x.T x.R pg = some L.q
  b0 : 0 ≤ L.b
  tl : layout_Plan_Tail.f x.P x.T x.R x.t = some L.qT
  hd : layout_Plan_Head.f x.P x.T x.R x.t = some L.qH
def shMark (L : Pl) (who : Int) (s : AS) (x : SS) : AS × SS :=
  ((s.acc true who 5 L.q 0 (bitOf L.b)).1, { x with at_ := if bitIn (s.acc true who 5 L.q 0 (bitOf L.b)).2 L.b = true then 1 else 3, done := true, fresh := bitIn (s.acc true who 5 L.q 0 (bitOf L.b)).2 L.b })
def shPush (L : Pl) (who : Int) (s : AS) (x : SS) : AS × SS :=
  if x.pat = 0 then ((s.acc true who 1 L.qT 0 0).1, { x with pat := 1, tl := (s.acc true who 1 L.qT 0 0).2 })
  else if x.pat = 1 then
    (if IntKind.u64.wrap x.R ≤ IntKind.u64.wrap (x.tl - (s.acc true who 1 L.qH 0 0).2) then ((s.acc true who 1 L.qH 0 0).1, { x with pat := 4, hd := (s.acc true who 1 L.qH 0 0).2, full := true, at_ := 2 })
     else ((s.acc true who 1 L.qH 0 0).1, { x with pat := 2, hd := (s.acc true who 1 L.qH 0 0).2 }))
  else if x.pat = 2 then ((s.acc true who 2 (L.qS x.tl) 0 x.ref).1, { x with pat := 3 })
  else ((s.acc true who 2 L.qT 0 (IntKind.u64.wrap (x.tl + 1))).1, { x with pat := 4, at_ := 3 })
def shStep (L : Pl) (who : Int) (s : AS) (x : SS) : AS × SS :=
  if x.at_ = 0 then shMark L who s x else if x.at_ = 1 then shPush L who s x else if x.at_ = 2 then ((s.acc true who 2 4 0 1).1, { x with lost := true, at_ := 3 }) else (s, x)
def SS.ok (x : SS) : Prop := (x.at_ = 0 ∧ x.done = false ∧ x.full = false ∧ x.pat = 0) ∨ (x.at_ = 1 ∧ x.full = false ∧ (x.pat = 0 ∨ x.pat = 1 ∨ x.pat = 2 ∨ x.pat = 3)) ∨ x.at_ = 2 ∨ x.at_ = 3
theorem shStep_same (L : Pl) (who : Int) (s : AS) (x : SS) : (shStep L who s x).2.P = x.P ∧ (shStep L who s x).2.T = x.T ∧ (shStep L who s x).2.R = x.R ∧ (shStep L who s x).2.t = x.t ∧ (shStep L who s x).2.ref = x.ref := by
  unfold shStep shMark shPush
  (repeat' split) <;> exact ⟨rfl, rfl, rfl, rfl, rfl⟩
theorem PlOk.step {L : Pl} {who : Int} {s : AS} {x : SS} (h : PlOk L x) : PlOk L (shStep L who s x).2 := by
  obtain ⟨e1, e2, e3, e4, e5⟩ := shStep_same L who s x
  exact ⟨by rw [e1, e2, e3, e5]; exact h.pl, h.b0, by rw [e1, e2, e3, e4]; exact h.tl, by rw [e1, e2, e3, e4]; exact h.hd⟩
theorem shStep_ok (L : Pl) (who : Int) (s : AS) {x : SS} (h : x.ok) : (shStep L who s x).2.ok := by
  unfold SS.ok at h
  rcases h with ⟨h1, h2, h3, h4⟩ | ⟨h1, h2, h3⟩ | h1 | h1
  · unfold shStep shMark
    rw [if_pos h1]
    unfold SS.ok
    split
    · exact .inr (.inl ⟨rfl, h3, .inl h4⟩)
    · exact .inr (.inr (.inr rfl))
  · unfold shStep shPush
    rw [if_neg (by omega), if_pos h1]
    rcases h3 with h3 | h3 | h3 | h3
    · rw [if_pos h3]; exact .inr (.inl ⟨h1, h2, .inr (.inl rfl)⟩)
    · rw [if_neg (by omega), if_pos h3]
      split
      · exact .inr (.inr (.inl rfl))
      · exact .inr (.inl ⟨h1, h2, .inr (.inr (.inl rfl))⟩)
    · rw [if_neg (by omega), if_neg (by omega), if_pos h3]; exact .inr (.inl ⟨h1, h2, .inr (.inr (.inr rfl))⟩)
    · rw [if_neg (by omega), if_neg (by omega), if_neg (by omega)]; exact .inr (.inr (.inr rfl))
  · unfold shStep
    rw [if_neg (by omega), if_neg (by omega), if_pos h1]; exact .inr (.inr (.inr rfl))
  · unfold shStep
    rw [if_neg (by omega), if_neg (by omega), if_neg (by omega)]; exact .inr (.inr (.inr h1))
theorem shStep_len (L : Pl) (who : Int) (s : AS) (x : SS) : (shStep L who s x).1.log.length ≤ s.log.length + 1 := by
  unfold shStep shMark shPush
  (repeat' split) <;> first | exact acc_len2 s _ _ _ _ _ _ | exact Nat.le_succ _

set_option maxHeartbeats 2000000 in
theorem shade_step {B : Nat} {w : World} {a c p : Nat} {s : AS} {who : Int} {ps : List (Nat × Int × Bool)} (hs : Sys B w a c s ps) (i : Nat) (hi : ps[i]? = some (p, who, true)) {m mk pu : Nat} {x : SS} (hx : IsShade w m mk pu x) (hB : B ≤ m ∧ B ≤ mk ∧ B ≤ pu) (hok : x.ok) (h3 : x.at_ ≠ 3) {L : Pl} (hL : PlOk L x)
    (hS : x.at_ = 1 → x.pat = 2 → layout_Plan_Slot.f x.P x.T x.R x.t x.tl = some (L.qS x.tl)) (hl : s.log.length ≤ 1000000) :
    Calls Try.prog 17 #[.pointer (some ⟨m, 0, none⟩), .pointer (some ⟨p, 0, none⟩)] w fun e w' => e = .returned (.bool (decide ((shStep L who s x).2.at_ = 3))) ∧ IsShade w' m mk pu (shStep L who s x).2 ∧ Sys B w' a c (shStep L who s x).1 (ps.set i (p, who, false)) ∧ Below B w w' ∧ Fr (fun k => k = m ∨ k = mk ∨ k = pu ∨ Touch c w k) w w' := by
  obtain ⟨P, T, R, t, ref, at_, lost, done, fresh, pat, hd, tl, full⟩ := x
  obtain ⟨⟨pg, hp, hq⟩, hb0, hT, hH⟩ := hL
  have hne := hx.ne
  obtain ⟨hb, hm, hpu⟩ := hx
  have hpu' : IsPush w pu ⟨P, T, R, t, ref, pat, hd, tl, full⟩ := hpu
  unfold SS.ok at hok
  simp only at hok h3 hS hp hq hT hH hb
  have hnt := IsShade.free ⟨hb, hm, hpu⟩ hs
  have wide : ∀ {w' : World}, Fr (fun k => k = m ∨ k = mk ∨ Touch c w k) w w' → Fr (fun k => k = m ∨ k = mk ∨ k = pu ∨ Touch c w k) w w' := fun h => fr_wide h fun k hk => hk.elim .inl fun hk => hk.elim (fun e => .inr (.inl e)) fun e => .inr (.inr (.inr e))
  have keep : ∀ {w' : World}, Fr (fun k => k = m ∨ k = mk ∨ Touch c w k) w w' → IsPush w' pu ⟨P, T, R, t, ref, pat, hd, tl, full⟩ := fun h => h.blk hpu' fun hk => hk.elim (fun e => hne.2.1 e.symm) fun hk => hk.elim (fun e => hne.2.2 e.symm) hnt.2.2
  rcases hok with ⟨rfl, rfl, rfl, rfl⟩ | ⟨rfl, rfl, hpat⟩ | rfl | rfl
  · have hst := mark_step_go (fr := fresh) hs i hi mk hm hB.2.1 hp hb0 hq hl
    unfold shStep shMark
    rw [if_pos rfl]
    cases hz : bitIn (s.acc true who 5 L.q 0 (bitOf L.b)).2 L.b with
    | true =>
      have hst' : Calls Try.prog 14 #[.pointer (some ⟨mk, 0, none⟩), .pointer (some ⟨p, 0, none⟩)] w fun e w' => e = .returned (.bool true) ∧ IsMark w' mk ⟨P, T, R, ref, true, true⟩ ∧ Sys B w' a c (s.acc true who 5 L.q 0 (bitOf L.b)).1 (ps.set i (p, who, false)) ∧ Below B w w' ∧ Fr (fun k => k = mk ∨ Touch c w k) w w' := by rw [hz] at hst; exact hst
      refine (shade_mark_fresh hs i hi m mk pu hB.1 lost hb _ rfl hne.1 hst').mono ?_
      rintro e w' ⟨rfl, h1, h2, h3, h4, h5⟩
      exact ⟨rfl, ⟨h1, h2, keep h5⟩, h3, h4, wide h5⟩
    | false =>
      have hst' : Calls Try.prog 14 #[.pointer (some ⟨mk, 0, none⟩), .pointer (some ⟨p, 0, none⟩)] w fun e w' => e = .returned (.bool true) ∧ IsMark w' mk ⟨P, T, R, ref, true, false⟩ ∧ Sys B w' a c (s.acc true who 5 L.q 0 (bitOf L.b)).1 (ps.set i (p, who, false)) ∧ Below B w w' ∧ Fr (fun k => k = mk ∨ Touch c w k) w w' := by rw [hz] at hst; exact hst
      refine (shade_mark_stale hs i hi m mk pu hB.1 lost hb _ rfl hne.1 hst').mono ?_
      rintro e w' ⟨rfl, h1, h2, h3, h4, h5⟩
      exact ⟨rfl, ⟨h1, h2, keep h5⟩, h3, h4, wide h5⟩
  · have hm' : IsMark w mk ⟨P, T, R, ref, done, fresh⟩ := hm
    unfold shStep
    rw [if_neg (by simp), if_pos rfl]
    unfold shPush
    rcases hpat with rfl | rfl | rfl | rfl
    · rw [if_pos rfl]
      refine (shade_push_on hs i hi m mk pu hB.1 lost hb _ _ hm' hne.1 hne.2.1 hne.2.2 (push_step0 hs i hi pu hpu' hB.2.2 hT hl)).mono ?_
      rintro e w' ⟨rfl, h1, h2, h3, h4, h5, h6⟩
      exact ⟨rfl, ⟨h1, h3, h2⟩, h4, h5, h6⟩
    · rw [if_neg (by simp), if_pos rfl]
      by_cases hz : IntKind.u64.wrap R ≤ IntKind.u64.wrap (tl - (s.acc true who 1 L.qH 0 0).2)
      · rw [if_pos hz]
        refine (shade_push_full hs i hi m mk pu hB.1 lost hb _ _ hm' rfl hne.1 hne.2.1 hne.2.2 (push_step1full hs i hi pu hpu' hB.2.2 hH hl hz)).mono ?_
        rintro e w' ⟨rfl, h1, h2, h3, h4, h5, h6⟩
        exact ⟨rfl, ⟨h1, h3, h2⟩, h4, h5, h6⟩
      · rw [if_neg hz]
        refine (shade_push_on hs i hi m mk pu hB.1 lost hb _ _ hm' hne.1 hne.2.1 hne.2.2 (push_step1room hs i hi pu hpu' hB.2.2 hH hl hz)).mono ?_
        rintro e w' ⟨rfl, h1, h2, h3, h4, h5, h6⟩
        exact ⟨rfl, ⟨h1, h3, h2⟩, h4, h5, h6⟩
    · rw [if_neg (by simp), if_neg (by simp), if_pos rfl]
      refine (shade_push_on hs i hi m mk pu hB.1 lost hb _ _ hm' hne.1 hne.2.1 hne.2.2 (push_step2 hs i hi pu hpu' hB.2.2 (hS rfl rfl) hl)).mono ?_
      rintro e w' ⟨rfl, h1, h2, h3, h4, h5, h6⟩
      exact ⟨rfl, ⟨h1, h3, h2⟩, h4, h5, h6⟩
    · rw [if_neg (by simp), if_neg (by simp), if_neg (by simp)]
      refine (shade_push_end hs i hi m mk pu hB.1 lost hb _ _ hm' rfl hne.1 hne.2.1 hne.2.2 (push_step3 hs i hi pu hpu' hB.2.2 hT hl)).mono ?_
      rintro e w' ⟨rfl, h1, h2, h3, h4, h5, h6⟩
      exact ⟨rfl, ⟨h1, h3, h2⟩, h4, h5, h6⟩
  · have hm' : IsMark w mk ⟨P, T, R, ref, done, fresh⟩ := hm
    unfold shStep
    rw [if_neg (by simp), if_neg (by simp), if_pos rfl]
    refine (shade_tell hs i hi m mk pu hB.1 lost hb _ _ hpu' hm' hl hne.1 hne.2.1 rfl).mono ?_
    rintro e w' ⟨rfl, h1, h2, h3, h4, h5, h6⟩
    exact ⟨rfl, ⟨h1, h3, h2⟩, h4, h5, h6⟩
  · exact absurd rfl h3
/-- k steps, each with a grant. -/
def shRun (L : Pl) (who : Int) (s : AS) (x : SS) : Nat → AS × SS
  | 0 => (s, x)
  | k + 1 => shStep L who (shRun L who s x k).1 (shRun L who s x k).2
theorem shRun_ok (L : Pl) (who : Int) (s : AS) {x : SS} (h : x.ok) : ∀ k, (shRun L who s x k).2.ok
  | 0 => h
  | k + 1 => shStep_ok L who _ (shRun_ok L who s h k)
theorem shRun_pl {L : Pl} {who : Int} {s : AS} {x : SS} (h : PlOk L x) : ∀ k, PlOk L (shRun L who s x k).2
  | 0 => h
  | k + 1 => PlOk.step (shRun_pl h k)
theorem shRun_len (L : Pl) (who : Int) (s : AS) (x : SS) : ∀ k, (shRun L who s x k).1.log.length ≤ s.log.length + k
  | 0 => Nat.le_refl _
  | k + 1 => Nat.le_trans (shStep_len L who _ _) (by have := shRun_len L who s x k; omega)
theorem shRun_same (L : Pl) (who : Int) (s : AS) (x : SS) : ∀ k, (shRun L who s x k).2.P = x.P ∧ (shRun L who s x k).2.T = x.T ∧ (shRun L who s x k).2.R = x.R ∧ (shRun L who s x k).2.t = x.t ∧ (shRun L who s x k).2.ref = x.ref
  | 0 => ⟨rfl, rfl, rfl, rfl, rfl⟩
  | k + 1 => by
    obtain ⟨a1, a2, a3, a4, a5⟩ := shRun_same L who s x k
    obtain ⟨b1, b2, b3, b4, b5⟩ := shStep_same L who (shRun L who s x k).1 (shRun L who s x k).2
    exact ⟨b1.trans a1, b2.trans a2, b3.trans a3, b4.trans a4, b5.trans a5⟩
def ShTouch (c m mk pu : Nat) (w : World) (k : Nat) : Prop := k = m ∨ k = mk ∨ k = pu ∨ Touch c w k
theorem shTouch_back {c m mk pu : Nat} {w w' : World} (hF : Fr (ShTouch c m mk pu w) w w') (k : Nat) (hk : k < w.heap.size) (ht : ShTouch c m mk pu w' k) : ShTouch c m mk pu w k := by
  rcases ht with e | e | e | ht
  · exact .inl e
  · exact .inr (.inl e)
  · exact .inr (.inr (.inl e))
  · by_cases h : ShTouch c m mk pu w k
    · exact h
    · have e := hF.block k hk h
      rcases ht with rfl | ⟨cs, t, f, h1, h2⟩
      · exact .inr (.inr (.inr (.inl rfl)))
      · rw [e] at h1
        exact .inr (.inr (.inr (.inr ⟨cs, t, f, h1, h2⟩)))
end Go.Proofs.Ytcnledehnefldaa.Ar

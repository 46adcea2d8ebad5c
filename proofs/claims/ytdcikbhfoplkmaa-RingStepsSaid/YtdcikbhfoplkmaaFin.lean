/- An arena of a plan, with a port. -/
import Derived.Test.YtdcikbhfoplkmaaPop
namespace Go.Proofs.Ytdcikbhfoplkmaa.Ar
open Go Go.RowKit Go.Proofs.Ytdcikbhfoplkmaa.Hp Go.Proofs.Ytdcikbhfoplkmaa.PH
set_option linter.unusedVariables false
set_option linter.unusedSimpArgs false

set_option maxHeartbeats 2000000 in
set_option maxRecDepth 100000 in
theorem lay (w : World) (P T R who : Int) (N k : Nat) (hc : windrowref06_Cells.f k P T R = some (N : Int)) (h1 : 1 ≤ N) (h2 : N ≤ 4096) (h3 : 0 ≤ who) (h4 : who ≤ 15) :
    Calls Try.prog 10 #[.agg #[.int .i64 P, .int .i64 T, .int .i64 R], .int .i64 who] w fun e w' => ∃ a c p, e = .returned (.tuple #[.pointer (some ⟨a, 0, none⟩), .pointer (some ⟨p, 0, none⟩), .bool true]) ∧ Sys w.heap.size w' a c ⟨List.replicate N 0, [], true, 0, 0⟩ [(p, who, false)] ∧ Below w.heap.size w w' := by
  have HC := Lib.hid hc
  have H12 := Lib.hid (And.intro h1 h2)
  have H34 := Lib.hid (And.intro h3 h4)
  have KB := Lib.hid (Hp.blk_new w (.cells #[.int .i64 P, .int .i64 T, .int .i64 R] 23))
  have HB := Lib.hid ((Below.refl w.heap.size w).alloc (Nat.le_refl _) (.cells #[.int .i64 P, .int .i64 T, .int .i64 R] 23))
  clear hc h1 h2 h3 h4
  go_enter Try.func10, Try.ntmps10
  go_wp2_with (first
    | (go_at_call 35; (refine (windrowref06_Cells.calls k P T R N _ HC.out).mono ?_; rintro e w2 ⟨rfl, hb⟩; replace HB := Lib.hid (HB.out.trans (hb.mono (by have := HB.out.size; first | exact HB.out.size | exact Nat.le_refl _ | omega))); clear hb))
    | (go_at_call 23; (refine (sys_new w.heap.size _ N true H12.out.1 H12.out.2 HB.out.size).mono ?_; rintro e w3 ⟨a, c, rfl, hS, hb, -, -⟩; (have HS := Lib.hid hS); replace HB := Lib.hid (HB.out.trans (hb.mono HB.out.size)); clear hS hb))
    | (go_at_call 30; (refine (HS.out.port who H34.out.1 H34.out.2).mono ?_; rintro e w4 ⟨p, rfl, hS, hb, -⟩; (have HS2 := Lib.hid hS); replace HB := Lib.hid (HB.out.trans (hb.mono HB.out.size)); clear hS hb)))
  have hr : ∀ (x y z : Value) (tmps : Array Value), True := fun _ _ _ _ => trivial
  refine bodyPost_ret (results_tmp3 rfl _ _ _) rfl ?_
  exact ⟨a, c, p, rfl, HS2.out, HB.out⟩
end Go.Proofs.Ytdcikbhfoplkmaa.Ar
/- A push is stepped to its end. -/
namespace Go.Proofs.Ytdcikbhfoplkmaa.Ar
open Go Go.RowKit Go.Proofs.Ytdcikbhfoplkmaa.Hp Go.Proofs.Ytdcikbhfoplkmaa.PH
set_option linter.unusedVariables false
set_option linter.unusedSimpArgs false

theorem set_get2 {α : Type} {l : List α} {i : Nat} {x y : α} (h : l[i]? = some x) : (l.set i y)[i]? = some y := by
  obtain ⟨hi, _⟩ := List.getElem?_eq_some_iff.1 h
  rw [List.getElem?_set_self hi]
theorem acc_len2 (t : AS) (g : Bool) (who kind at_ want put : Int) : (t.acc g who kind at_ want put).1.log.length ≤ t.log.length + 1 := by
  unfold AS.acc
  split
  · unfold AS.done
    simp only
    split <;> simp
  · exact Nat.le_succ _
/-- The arena behind the first k steps of a push; the push. -/
def stS (s : AS) (who v qT qH qS : Int) : Nat → AS
  | 0 => s
  | 1 => (s.acc true who 1 qT 0 0).1
  | 2 => ((s.acc true who 1 qT 0 0).1.acc true who 1 qH 0 0).1
  | 3 => (((s.acc true who 1 qT 0 0).1.acc true who 1 qH 0 0).1.acc true who 2 qS 0 v).1
  | _ => ((((s.acc true who 1 qT 0 0).1.acc true who 1 qH 0 0).1.acc true who 2 qS 0 v).1.acc true who 2 qT 0 (IntKind.u64.wrap ((s.acc true who 1 qT 0 0).2 + 1))).1
def rdT (s : AS) (who qT : Int) : Int := (s.acc true who 1 qT 0 0).2
def rdH (s : AS) (who qT qH : Int) : Int := ((s.acc true who 1 qT 0 0).1.acc true who 1 qH 0 0).2
def stX (P T R t v : Int) (tl hd : Int) : Nat → PS
  | 0 => ⟨P, T, R, t, v, 0, 0, 0, false⟩
  | 1 => ⟨P, T, R, t, v, 1, 0, tl, false⟩
  | 2 => ⟨P, T, R, t, v, 2, hd, tl, false⟩
  | 3 => ⟨P, T, R, t, v, 3, hd, tl, false⟩
  | _ => ⟨P, T, R, t, v, 4, hd, tl, false⟩
theorem stS_len (s : AS) (who v qT qH qS : Int) : ∀ k, k ≤ 3 → (stS s who v qT qH qS k).log.length ≤ s.log.length + k
  | 0, _ => Nat.le_refl _
  | 1, _ => acc_len2 s _ _ _ _ _ _
  | 2, _ => Nat.le_trans (acc_len2 (s.acc true who 1 qT 0 0).1 _ _ _ _ _ _) (by have := acc_len2 s true who 1 qT 0 0; omega)
  | 3, _ => Nat.le_trans (acc_len2 ((s.acc true who 1 qT 0 0).1.acc true who 1 qH 0 0).1 _ _ _ _ _ _) (by have := acc_len2 s true who 1 qT 0 0; have := acc_len2 (s.acc true who 1 qT 0 0).1 true who 1 qH 0 0; omega)

set_option maxHeartbeats 2000000 in
set_option maxRecDepth 100000 in
theorem finish_room {B : Nat} {w : World} {a c p : Nat} {s : AS} {who : Int} {g : Bool} {ps : List (Nat × Int × Bool)} {P T R t v qT qH qS : Int} (hs : Sys B w a c s ps) (i : Nat) (hi : ps[i]? = some (p, who, g)) (m : Nat) (h : IsPush w m ⟨P, T, R, t, v, 0, 0, 0, false⟩) (hB : B ≤ m)
    (hqT : layout_Plan_Tail.f P T R t = some qT) (hqH : layout_Plan_Head.f P T R t = some qH) (hqS : layout_Plan_Slot.f P T R t (rdT s who qT) = some qS) (hl : s.log.length ≤ 1000)
    (hz : ¬ IntKind.u64.wrap R ≤ IntKind.u64.wrap (rdT s who qT - rdH s who qT qH)) :
    Calls Try.prog 14 #[.pointer (some ⟨p, 0, none⟩), .pointer (some ⟨m, 0, none⟩)] w fun e w' => e = .returned (.int .i64 4) ∧ IsPush w' m (stX P T R t v (rdT s who qT) (rdH s who qT qH) 4) ∧ (∃ ps', ps'[i]? = some (p, who, false) ∧ Sys B w' a c (stS s who v qT qH qS 4) ps') ∧ Below B w w' ∧ Fr (fun k => k = m ∨ Touch c w k) w w' := by
  have KS := Lib.hid hs
  have KI := Lib.hid hi
  have KX := Lib.hid h
  have HBm := Lib.hid hB
  have HqT := Lib.hid hqT
  have HqH := Lib.hid hqH
  have HqS := Lib.hid hqS
  have KL := Lib.hid hl
  have HZ := Lib.hid hz
  have KB := Lib.hid (Below.refl B w)
  have KF := Lib.hid (Fr.refl (fun k => k = m ∨ Touch c w k) w)
  have Klen := Lib.hid (stS_len s who v qT qH qS)
  clear hs hi h hB hqT hqH hqS hl hz
  go_enter Try.func14, Try.ntmps14
  go_wp2_with (fail)
  go_loopw [5] (fun v5 wr => ∃ (k : Nat) (g' : Bool) (ps' : List (Nat × Int × Bool)), k ≤ 3 ∧ v5 = .int .i64 ((k : Int) + 1) ∧ Hid (ps'[i]? = some (p, who, g')) ∧ Hid (Sys B wr a c (stS s who v qT qH qS k) ps') ∧ Hid (IsPush wr m (stX P T R t v (rdT s who qT) (rdH s who qT qH) k)) ∧ Hid (Below B w wr) ∧ Hid (Fr (fun k => k = m ∨ Touch c w k) w wr)) (fun v5 _ => 6 - (intOf v5).toNat)
  case atStart => exact ⟨0, g, ps, by omega, rfl, KI, KS, KX, KB, KF⟩
  case round =>
    obtain ⟨k, g', ps', hk, rfl, HI, HS, HX, HB, HF⟩ := hrel
    clear KI KS KX KB KF
    have HLn := Lib.hid (by have h1 := Klen.out k hk; have h2 := KL.out; omega : (stS s who v qT qH qS k).log.length ≤ 1000000)
    have hk4 : k = 0 ∨ k = 1 ∨ k = 2 ∨ k = 3 := by omega
    rcases hk4 with rfl | rfl | rfl | rfl
    · go_wp2_with (first
        | (go_at_call 43; ((have hm := HS.out.grant i HI.out); refine hm.mono ?_; clear hm; rintro e w2 ⟨rfl, hD⟩; (have HX2 := Lib.hid (hD.fr.blk HX.out (not_touch HX.out (blk_ne HX.out (sys_cel HS.out) (by decide)) (by decide)))); (have HS2 := Lib.hid hD.sys); (have HI2 := Lib.hid (set_get2 (y := (p, who, true)) HI.out)); replace HB := Lib.hid (HB.out.trans hD.bel); (have hF2 := HF.out.then hD.fr (touch_back HF.out)); clear HF; (have HF := Lib.hid hF2); clear hD hF2))
        | (go_at_call 24; ((have hm := push_step0 HS2.out i HI2.out m HX2.out HBm.out HqT.out (by have := HLn.out; omega)); refine hm.mono ?_; clear hm; rintro e w3 ⟨rfl, hX, hS, hb, hF⟩; (have HX3 := Lib.hid hX); (have HS3 := Lib.hid hS); (have HI3 := Lib.hid (set_get2 (y := (p, who, false)) HI2.out)); replace HB := Lib.hid (HB.out.trans hb); (have hF2 := HF.out.then hF (fun k hk ht => by rcases ht with rfl | ht; exact .inl rfl; exact touch_back HF.out k hk ht)); clear HF; (have HF := Lib.hid hF2); clear hX hS hb hF hF2)))
      go_roundw
      case rel => exact ⟨1, false, _, by omega, rfl, HI3, HS3, HX3, HB, HF⟩
      case measure => simp [intOf]
    · go_wp2_with (first
        | (go_at_call 43; ((have hm := HS.out.grant i HI.out); refine hm.mono ?_; clear hm; rintro e w2 ⟨rfl, hD⟩; (have HX2 := Lib.hid (hD.fr.blk HX.out (not_touch HX.out (blk_ne HX.out (sys_cel HS.out) (by decide)) (by decide)))); (have HS2 := Lib.hid hD.sys); (have HI2 := Lib.hid (set_get2 (y := (p, who, true)) HI.out)); replace HB := Lib.hid (HB.out.trans hD.bel); (have hF2 := HF.out.then hD.fr (touch_back HF.out)); clear HF; (have HF := Lib.hid hF2); clear hD hF2))
        | (go_at_call 24; ((have hm := push_step1room HS2.out i HI2.out m HX2.out HBm.out HqH.out (by have := HLn.out; omega) (show ¬ IntKind.u64.wrap R ≤ IntKind.u64.wrap (rdT s who qT - rdH s who qT qH) by have := HZ.out; omega)); refine hm.mono ?_; clear hm; rintro e w3 ⟨rfl, hX, hS, hb, hF⟩; (have HX3 := Lib.hid hX); (have HS3 := Lib.hid hS); (have HI3 := Lib.hid (set_get2 (y := (p, who, false)) HI2.out)); replace HB := Lib.hid (HB.out.trans hb); (have hF2 := HF.out.then hF (fun k hk ht => by rcases ht with rfl | ht; exact .inl rfl; exact touch_back HF.out k hk ht)); clear HF; (have HF := Lib.hid hF2); clear hX hS hb hF hF2)))
      go_roundw
      case rel => exact ⟨2, false, _, by omega, rfl, HI3, HS3, HX3, HB, HF⟩
      case measure => simp [intOf]
    · go_wp2_with (first
        | (go_at_call 43; ((have hm := HS.out.grant i HI.out); refine hm.mono ?_; clear hm; rintro e w2 ⟨rfl, hD⟩; (have HX2 := Lib.hid (hD.fr.blk HX.out (not_touch HX.out (blk_ne HX.out (sys_cel HS.out) (by decide)) (by decide)))); (have HS2 := Lib.hid hD.sys); (have HI2 := Lib.hid (set_get2 (y := (p, who, true)) HI.out)); replace HB := Lib.hid (HB.out.trans hD.bel); (have hF2 := HF.out.then hD.fr (touch_back HF.out)); clear HF; (have HF := Lib.hid hF2); clear hD hF2))
        | (go_at_call 24; ((have hm := push_step2 HS2.out i HI2.out m HX2.out HBm.out HqS.out (by have := HLn.out; omega)); refine hm.mono ?_; clear hm; rintro e w3 ⟨rfl, hX, hS, hb, hF⟩; (have HX3 := Lib.hid hX); (have HS3 := Lib.hid hS); (have HI3 := Lib.hid (set_get2 (y := (p, who, false)) HI2.out)); replace HB := Lib.hid (HB.out.trans hb); (have hF2 := HF.out.then hF (fun k hk ht => by rcases ht with rfl | ht; exact .inl rfl; exact touch_back HF.out k hk ht)); clear HF; (have HF := Lib.hid hF2); clear hX hS hb hF hF2)))
      go_roundw
      case rel => exact ⟨3, false, _, by omega, rfl, HI3, HS3, HX3, HB, HF⟩
      case measure => simp [intOf]
    · go_wp2_with (first
        | (go_at_call 43; ((have hm := HS.out.grant i HI.out); refine hm.mono ?_; clear hm; rintro e w2 ⟨rfl, hD⟩; (have HX2 := Lib.hid (hD.fr.blk HX.out (not_touch HX.out (blk_ne HX.out (sys_cel HS.out) (by decide)) (by decide)))); (have HS2 := Lib.hid hD.sys); (have HI2 := Lib.hid (set_get2 (y := (p, who, true)) HI.out)); replace HB := Lib.hid (HB.out.trans hD.bel); (have hF2 := HF.out.then hD.fr (touch_back HF.out)); clear HF; (have HF := Lib.hid hF2); clear hD hF2))
        | (go_at_call 24; ((have hm := push_step3 HS2.out i HI2.out m HX2.out HBm.out HqT.out (by have := HLn.out; omega)); refine hm.mono ?_; clear hm; rintro e w3 ⟨rfl, hX, hS, hb, hF⟩; (have HX3 := Lib.hid hX); (have HS3 := Lib.hid hS); (have HI3 := Lib.hid (set_get2 (y := (p, who, false)) HI2.out)); replace HB := Lib.hid (HB.out.trans hb); (have hF2 := HF.out.then hF (fun k hk ht => by rcases ht with rfl | ht; exact .inl rfl; exact touch_back HF.out k hk ht)); clear HF; (have HF := Lib.hid hF2); clear hX hS hb hF hF2)))
      go_ret
      exact ⟨rfl, HX3.out, ⟨_, HI3.out, HS3.out⟩, HB.out, HF.out⟩
set_option maxHeartbeats 2000000 in
set_option maxRecDepth 100000 in
theorem finish_full {B : Nat} {w : World} {a c p : Nat} {s : AS} {who : Int} {g : Bool} {ps : List (Nat × Int × Bool)} {P T R t v qT qH : Int} (hs : Sys B w a c s ps) (i : Nat) (hi : ps[i]? = some (p, who, g)) (m : Nat) (h : IsPush w m ⟨P, T, R, t, v, 0, 0, 0, false⟩) (hB : B ≤ m)
    (hqT : layout_Plan_Tail.f P T R t = some qT) (hqH : layout_Plan_Head.f P T R t = some qH) (hl : s.log.length ≤ 1000)
    (hz : IntKind.u64.wrap R ≤ IntKind.u64.wrap (rdT s who qT - rdH s who qT qH)) :
    Calls Try.prog 14 #[.pointer (some ⟨p, 0, none⟩), .pointer (some ⟨m, 0, none⟩)] w fun e w' => e = .returned (.int .i64 2) ∧ IsPush w' m ⟨P, T, R, t, v, 4, rdH s who qT qH, rdT s who qT, true⟩ ∧ (∃ ps', ps'[i]? = some (p, who, false) ∧ Sys B w' a c (stS s who v qT qH 0 2) ps') ∧ Below B w w' ∧ Fr (fun k => k = m ∨ Touch c w k) w w' := by
  have KS := Lib.hid hs
  have KI := Lib.hid hi
  have KX := Lib.hid h
  have HBm := Lib.hid hB
  have HqT := Lib.hid hqT
  have HqH := Lib.hid hqH
  have KL := Lib.hid hl
  have HZ := Lib.hid hz
  have KB := Lib.hid (Below.refl B w)
  have KF := Lib.hid (Fr.refl (fun k => k = m ∨ Touch c w k) w)
  have Klen := Lib.hid (stS_len s who v qT qH 0)
  clear hs hi h hB hqT hqH hl hz
  go_enter Try.func14, Try.ntmps14
  go_wp2_with (fail)
  go_loopw [5] (fun v5 wr => ∃ (k : Nat) (g' : Bool) (ps' : List (Nat × Int × Bool)), k ≤ 1 ∧ v5 = .int .i64 ((k : Int) + 1) ∧ Hid (ps'[i]? = some (p, who, g')) ∧ Hid (Sys B wr a c (stS s who v qT qH 0 k) ps') ∧ Hid (IsPush wr m (stX P T R t v (rdT s who qT) (rdH s who qT qH) k)) ∧ Hid (Below B w wr) ∧ Hid (Fr (fun k => k = m ∨ Touch c w k) w wr)) (fun v5 _ => 6 - (intOf v5).toNat)
  case atStart => exact ⟨0, g, ps, by omega, rfl, KI, KS, KX, KB, KF⟩
  case round =>
    obtain ⟨k, g', ps', hk, rfl, HI, HS, HX, HB, HF⟩ := hrel
    clear KI KS KX KB KF
    have HLn := Lib.hid (by have h1 := Klen.out k (by omega); have h2 := KL.out; omega : (stS s who v qT qH 0 k).log.length ≤ 1000000)
    have hk4 : k = 0 ∨ k = 1 := by omega
    rcases hk4 with rfl | rfl
    · go_wp2_with (first
        | (go_at_call 43; ((have hm := HS.out.grant i HI.out); refine hm.mono ?_; clear hm; rintro e w2 ⟨rfl, hD⟩; (have HX2 := Lib.hid (hD.fr.blk HX.out (not_touch HX.out (blk_ne HX.out (sys_cel HS.out) (by decide)) (by decide)))); (have HS2 := Lib.hid hD.sys); (have HI2 := Lib.hid (set_get2 (y := (p, who, true)) HI.out)); replace HB := Lib.hid (HB.out.trans hD.bel); (have hF2 := HF.out.then hD.fr (touch_back HF.out)); clear HF; (have HF := Lib.hid hF2); clear hD hF2))
        | (go_at_call 24; ((have hm := push_step0 HS2.out i HI2.out m HX2.out HBm.out HqT.out (by have := HLn.out; omega)); refine hm.mono ?_; clear hm; rintro e w3 ⟨rfl, hX, hS, hb, hF⟩; (have HX3 := Lib.hid hX); (have HS3 := Lib.hid hS); (have HI3 := Lib.hid (set_get2 (y := (p, who, false)) HI2.out)); replace HB := Lib.hid (HB.out.trans hb); (have hF2 := HF.out.then hF (fun k hk ht => by rcases ht with rfl | ht; exact .inl rfl; exact touch_back HF.out k hk ht)); clear HF; (have HF := Lib.hid hF2); clear hX hS hb hF hF2)))
      go_roundw
      case rel => exact ⟨1, false, _, by omega, rfl, HI3, HS3, HX3, HB, HF⟩
      case measure => simp [intOf]
    · go_wp2_with (first
        | (go_at_call 43; ((have hm := HS.out.grant i HI.out); refine hm.mono ?_; clear hm; rintro e w2 ⟨rfl, hD⟩; (have HX2 := Lib.hid (hD.fr.blk HX.out (not_touch HX.out (blk_ne HX.out (sys_cel HS.out) (by decide)) (by decide)))); (have HS2 := Lib.hid hD.sys); (have HI2 := Lib.hid (set_get2 (y := (p, who, true)) HI.out)); replace HB := Lib.hid (HB.out.trans hD.bel); (have hF2 := HF.out.then hD.fr (touch_back HF.out)); clear HF; (have HF := Lib.hid hF2); clear hD hF2))
        | (go_at_call 24; ((have hm := push_step1full HS2.out i HI2.out m HX2.out HBm.out HqH.out (by have := HLn.out; omega) HZ.out); refine hm.mono ?_; clear hm; rintro e w3 ⟨rfl, hX, hS, hb, hF⟩; (have HX3 := Lib.hid hX); (have HS3 := Lib.hid hS); (have HI3 := Lib.hid (set_get2 (y := (p, who, false)) HI2.out)); replace HB := Lib.hid (HB.out.trans hb); (have hF2 := HF.out.then hF (fun k hk ht => by rcases ht with rfl | ht; exact .inl rfl; exact touch_back HF.out k hk ht)); clear HF; (have HF := Lib.hid hF2); clear hX hS hb hF hF2)))
      go_ret
      exact ⟨rfl, HX3.out, ⟨_, HI3.out, HS3.out⟩, HB.out, HF.out⟩
end Go.Proofs.Ytdcikbhfoplkmaa.Ar

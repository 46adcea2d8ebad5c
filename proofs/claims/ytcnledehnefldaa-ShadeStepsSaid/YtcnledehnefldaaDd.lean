/- The machines' steps, with the chapter's arena beside the program's. -/
import Derived.Test.YtcnledehnefldaaFns
import Derived.Test.YtcnledehnefldaaDuo
namespace Go.Proofs.Ytcnledehnefldaa.Dd
open Go Go.RowKit Go.Proofs.Ytcnledehnefldaa.Hp Go.Proofs.Ytcnledehnefldaa.PH Go.Proofs.Ytcnledehnefldaa.Ar
set_option linter.unusedVariables false
set_option linter.unusedSimpArgs false

abbrev SysD (am cc : Nat) (t2 : AS) (qs : List (Nat × Int × Bool)) (B : Nat) (w : World) (a c : Nat) (s : AS) (ps : List (Nat × Int × Bool)) : Prop := Duo B w a c s ps am cc t2 qs
theorem _root_.Go.Proofs.Ytcnledehnefldaa.Ar.Duo.open_ {B am cc : Nat} {t2 : AS} {qs : List (Nat × Int × Bool)} {w : World} {a c p : Nat} {s : AS} {who : Int} {g : Bool} {ps : List (Nat × Int × Bool)} (h : Duo B w a c s ps am cc t2 qs) (i : Nat) (hi : ps[i]? = some (p, who, g)) :
    Calls Try.prog 47 #[.pointer (some ⟨p, 0, none⟩)] w fun e w' => e = .returned (.bool g) ∧ w' = w := h.sys.open_ i hi
theorem duo_nt {B am cc k : Nat} {t2 : AS} {qs : List (Nat × Int × Bool)} {w : World} {a c : Nat} {s : AS} {ps : List (Nat × Int × Bool)} {cs : Array Value} {t : TypeId} {f : Nat × Nat} (h : Duo B w a c s ps am cc t2 qs) (hb : w.heap[k]? = some (.cells cs t f))
    (ht : t ≠ 24 ∧ t ≠ 111 ∧ t ≠ 113 ∧ t ≠ 75 ∧ t ≠ 66 ∧ t ≠ 137) : ¬ TouchD c cc w k := by
  obtain ⟨lv, lv2, hA, hM, _⟩ := h.both
  exact not_touchD hb ⟨blk_ne hb hA.cel ht.1, blk_ne hb hM.cel ht.1⟩ ht.2
theorem touch_backD {c cc m : Nat} {w w' : World} (hF : Fr (fun k => k = m ∨ TouchD c cc w k) w w') (k : Nat) (hk : k < w.heap.size) (ht : TouchD c cc w' k) : k = m ∨ TouchD c cc w k := by
  by_cases h : k = m ∨ TouchD c cc w k
  · exact h
  · have e := hF.block k hk h
    rcases ht with rfl | rfl | ⟨cs, t, f, h1, h2⟩
    · exact .inr (.inl rfl)
    · exact .inr (.inr (.inl rfl))
    · rw [e] at h1
      exact .inr (.inr (.inr ⟨cs, t, f, h1, h2⟩))
theorem _root_.Go.Proofs.Ytcnledehnefldaa.Ar.IsShade.freeD {B am cc : Nat} {t2 : AS} {qs : List (Nat × Int × Bool)} {w : World} {a c m mk pu : Nat} {s : AS} {ps : List (Nat × Int × Bool)} {x : SS} (h : IsShade w m mk pu x) (hs : Duo B w a c s ps am cc t2 qs) : ¬ TouchD c cc w m ∧ ¬ TouchD c cc w mk ∧ ¬ TouchD c cc w pu :=
  ⟨duo_nt hs h.blk (by decide), duo_nt hs h.mrk (by decide), duo_nt hs h.psh (by decide)⟩

set_option maxHeartbeats 2000000 in
set_option maxRecDepth 100000 in
theorem push_step0 {B am cc : Nat} {t2 : AS} {qs : List (Nat × Int × Bool)} {w : World} {a c p : Nat} {s : AS} {who : Int} {ps : List (Nat × Int × Bool)} {P T R t v hd tl : Int} {fl : Bool} {q : Int} (hs : SysD am cc t2 qs B w a c s ps) (i : Nat) (hi : ps[i]? = some (p, who, true)) (m : Nat) (h : IsPush w m ⟨P, T, R, t, v, 0, hd, tl, fl⟩) (hB : B ≤ m) (hq : layout_Plan_Tail.f P T R t = some q) (hl : s.log.length ≤ 1000000) :
    Calls Try.prog 51 #[.pointer (some ⟨m, 0, none⟩), .pointer (some ⟨p, 0, none⟩)] w fun e w' => e = .returned (.bool false) ∧ IsPush w' m ⟨P, T, R, t, v, 1, hd, (s.acc true who 1 q 0 0).2, fl⟩ ∧ SysD am cc t2 qs B w' a c (s.acc true who 1 q 0 0).1 (ps.set i (p, who, false)) ∧ Below B w w' ∧ Fr (fun k => k = m ∨ TouchD c cc w k) w w' := by
  have h' : w.heap[m]? = some (.cells #[.int .i64 P, .int .i64 T, .int .i64 R, .int .i64 t, .int .u64 v, .int .i64 0, .int .u64 hd, .int .u64 tl, .bool fl] 131 (0, 0)) := h
  have HO := Lib.hid (hs.open_ i hi)
  have HS := Lib.hid hs
  have HQ := Lib.hid hq
  have HI := Lib.hid hi
  have HL := Lib.hid hl
  obtain ⟨c5, -⟩ := Hp.blk_cell h' 5 rfl
  have HP := Lib.hid h'
  have HB := Lib.hid (Below.refl B w)
  have HF := Lib.hid (Fr.refl (fun k => k = m ∨ TouchD c cc w k) w)
  have HBm := Lib.hid hB
  clear hs hi h h' hq hl hB
  go_enter Try.func51, Try.ntmps51
  go_upto_region 7 with (first | (go_at_call 47; (refine HO.out.mono ?_; clear HO; rintro e w2 ⟨rfl, rfl⟩)))
  clear c5
  replace HS := Lib.hid (HS.out.still ((Fr.refl _ _).drew))
  replace HB := Lib.hid HB.out.drew
  replace HF := Lib.hid HF.out.drew
  have HP1 : Hid (w2.drew.heap[m]? = some (.cells #[.int .i64 P, .int .i64 T, .int .i64 R, .int .i64 t, .int .u64 v, .int .i64 0, .int .u64 hd, .int .u64 tl, .bool fl] 131 (0, 0))) := Lib.hid HP.out
  clear HP
  refine Rg.Upto.start (fun w' => ∃ y, w'.heap[m]? = some (.cells #[.int .i64 P, .int .i64 T, .int .i64 R, .int .i64 t, .int .u64 v, .int .i64 0, .int .u64 hd, .int .u64 y, .bool fl] 131 (0, 0))) 1000 (by kernel_rfl) ⟨_, HP1.out⟩ (fun HS0 => ?_)
  have HSC := HS0
  clear HS0
  refine Rg.Upto.takeA (i := 0) (v := ?_) rfl (by kernel_rfl) (by kernel_rfl) (by kernel_rfl) (of_decide_eq_true (by kernel_rfl)) (fun _ _ _ h => h) (by rfl) (fun w5 hS5 => ?_) HSC ?_
  rotate_left
  · obtain ⟨y, hS5⟩ := hS5
    clear hS5
    go_simp
    try rfl
  try simp only [Act.put, List.setIfInBounds_toArray, List.set_cons_zero, List.set_cons_succ]
  refine Rg.Upto.takeA (i := 1) (v := ?_) rfl (by kernel_rfl) (by kernel_rfl) (by kernel_rfl) (of_decide_eq_true (by kernel_rfl)) (fun _ _ _ h => h) (by rfl) (fun w5 hS5 => ?_) HSC ?_
  rotate_left
  · obtain ⟨y, hS5⟩ := hS5
    clear hS5
    go_simp
    try rfl
  try simp only [Act.put, List.setIfInBounds_toArray, List.set_cons_zero, List.set_cons_succ]
  refine Rg.Upto.takeA (i := 2) (v := ?_) rfl (by kernel_rfl) (by kernel_rfl) (by kernel_rfl) (of_decide_eq_true (by kernel_rfl)) (fun _ _ _ h => h) (by rfl) (fun w5 hS5 => ?_) HSC ?_
  rotate_left
  · obtain ⟨y, hS5⟩ := hS5
    clear hS5
    go_simp
    try rfl
  try simp only [Act.put, List.setIfInBounds_toArray, List.set_cons_zero, List.set_cons_succ]
  refine Rg.Upto.takeA (i := 3) (v := ?_) rfl (by kernel_rfl) (by kernel_rfl) (by kernel_rfl) (of_decide_eq_true (by kernel_rfl)) (fun _ _ _ h => h) (by rfl) (fun w5 hS5 => ?_) HSC ?_
  rotate_left
  · obtain ⟨y, hS5⟩ := hS5
    clear hS5
    go_simp
    try rfl
  try simp only [Act.put, List.setIfInBounds_toArray, List.set_cons_zero, List.set_cons_succ]
  refine Rg.Upto.takeA (i := 4) (v := ?_) rfl (by kernel_rfl) (by kernel_rfl) (by kernel_rfl) (of_decide_eq_true (by kernel_rfl)) (fun _ _ _ h => h) (by rfl) (fun w5 hS5 => ?_) HSC ?_
  rotate_left
  · obtain ⟨y, hS5⟩ := hS5
    clear hS5
    go_simp
    try rfl
  try simp only [Act.put, List.setIfInBounds_toArray, List.set_cons_zero, List.set_cons_succ]
  refine Rg.Upto.takeA (i := 5) (v := ?_) rfl (by kernel_rfl) (by kernel_rfl) (by kernel_rfl) (of_decide_eq_true (by kernel_rfl)) (fun _ _ _ h => h) (by rfl) (fun w5 hS5 => ?_) HSC ?_
  rotate_left
  · obtain ⟨y, hS5⟩ := hS5
    have c0 := (Hp.blk_cell hS5 0 rfl).1
    have c1 := (Hp.blk_cell hS5 1 rfl).1
    have c2 := (Hp.blk_cell hS5 2 rfl).1
    clear hS5
    go_simp
    try rfl
  try simp only [Act.put, List.setIfInBounds_toArray, List.set_cons_zero, List.set_cons_succ]
  refine Rg.Upto.takeA (i := 6) (v := ?_) rfl (by kernel_rfl) (by kernel_rfl) (by kernel_rfl) (of_decide_eq_true (by kernel_rfl)) (fun _ _ _ h => h) (by rfl) (fun w5 hS5 => ?_) HSC ?_
  rotate_left
  · obtain ⟨y, hS5⟩ := hS5
    clear hS5
    go_simp
    try rfl
  try simp only [Act.put, List.setIfInBounds_toArray, List.set_cons_zero, List.set_cons_succ]
  refine Rg.Upto.takeA (i := 7) (v := ?_) rfl (by kernel_rfl) (by kernel_rfl) (by kernel_rfl) (of_decide_eq_true (by kernel_rfl)) (fun _ _ _ h => h) (by rfl) (fun w5 hS5 => ?_) HSC ?_
  rotate_left
  · obtain ⟨y, hS5⟩ := hS5
    clear hS5
    go_simp
    try rfl
  try simp only [Act.put, List.setIfInBounds_toArray, List.set_cons_zero, List.set_cons_succ]
  refine Rg.Upto.takeA (i := 8) (v := ?_) rfl (by kernel_rfl) (by kernel_rfl) (by kernel_rfl) (of_decide_eq_true (by kernel_rfl)) (fun _ _ _ h => h) (by rfl) (fun w5 hS5 => ?_) HSC ?_
  rotate_left
  · obtain ⟨y, hS5⟩ := hS5
    clear hS5
    go_simp
    try rfl
  try simp only [Act.put, List.setIfInBounds_toArray, List.set_cons_zero, List.set_cons_succ]
  refine Rg.Upto.takeA (i := 9) (v := ?_) rfl (by kernel_rfl) (by kernel_rfl) (by kernel_rfl) (of_decide_eq_true (by kernel_rfl)) (fun _ _ _ h => h) (by rfl) (fun w5 hS5 => ?_) HSC ?_
  rotate_left
  · obtain ⟨y, hS5⟩ := hS5
    have c3 := (Hp.blk_cell hS5 3 rfl).1
    clear hS5
    go_simp
    try rfl
  try simp only [Act.put, List.setIfInBounds_toArray, List.set_cons_zero, List.set_cons_succ]
  refine Rg.Upto.one (i := 10) rfl (by kernel_rfl) (by rfl) (fun KK hK => ?_)
  go_simp
  refine (layout_Plan_Tail.calls P T R t q _ HQ.out).mono ?_
  rintro e w3 ⟨rfl, hb⟩
  have HP := Lib.hid (blk_below HP1.out hb)
  clear HP1 HSC
  replace HB := Lib.hid (HB.out.trans (hb.mono HS.out.base.1))
  replace HS := Lib.hid (HS.out.below hb)
  replace HF := Lib.hid (HF.out.below hb)
  refine hK.out _ _ ⟨_, HP.out⟩ ?_
  clear hK KK hb
  try simp only [Act.put, List.setIfInBounds_toArray, List.set_cons_zero, List.set_cons_succ]
  obtain ⟨sn, hsn⟩ : ∃ sn, sn = (s.acc true who 1 q 0 0).2 := ⟨_, rfl⟩
  have HSN := Lib.hid hsn
  clear hsn
  refine Rg.Upto.one (i := 11) rfl (by kernel_rfl) (by rfl) (fun KK hK => ?_)
  go_simp
  have hm := HS.out.load i q HI.out HL.out
  rw [← HSN.out] at hm
  refine hm.mono ?_
  clear hm
  rintro e w4 ⟨rfl, hD⟩
  have HP1 := Lib.hid (hD.fr.blk HP.out ((duo_nt HS.out HP.out (by decide))))
  have hF2 := HF.out.then hD.fr (touch_backD HF.out)
  replace HB := Lib.hid (HB.out.trans hD.bel)
  clear HF HS HP
  have HF := Lib.hid hF2
  have HS := Lib.hid hD.duo
  refine hK.out _ _ ⟨_, HP1.out⟩ ?_
  clear hK KK hD hF2
  have HSC : ∃ y, w4.heap[m]? = some (.cells #[.int .i64 P, .int .i64 T, .int .i64 R, .int .i64 t, .int .u64 v, .int .i64 0, .int .u64 hd, .int .u64 y, .bool fl] 131 (0, 0)) := ⟨_, HP1.out⟩
  try simp only [Act.put, List.setIfInBounds_toArray, List.set_cons_zero, List.set_cons_succ]
  refine Rg.Upto.takeA (i := 12) (v := ?_) rfl (by kernel_rfl) (by kernel_rfl) (by kernel_rfl) (of_decide_eq_true (by kernel_rfl)) (fun _ _ _ h => h) (by rfl) (fun w5 hS5 => ?_) HSC ?_
  rotate_left
  · obtain ⟨y, hS5⟩ := hS5
    clear hS5
    go_simp
    try rfl
  try simp only [Act.put, List.setIfInBounds_toArray, List.set_cons_zero, List.set_cons_succ]
  refine Rg.Upto.takeA (i := 13) (v := ?_) rfl (by kernel_rfl) (by kernel_rfl) (by kernel_rfl) (of_decide_eq_true (by kernel_rfl)) (fun _ _ _ h => h) (by rfl) (fun w5 hS5 => ?_) HSC ?_
  rotate_left
  · obtain ⟨y, hS5⟩ := hS5
    clear hS5
    go_simp
    try rfl
  try simp only [Act.put, List.setIfInBounds_toArray, List.set_cons_zero, List.set_cons_succ]
  refine Rg.Upto.one (i := 14) rfl (by kernel_rfl) (by rfl) (fun KK hK => ?_)
  obtain ⟨c7, d7⟩ := Hp.blk_cell HP1.out 7 rfl
  go_simp
  have HP2 : (w4.setCell ⟨m, 7, none⟩ (.int .u64 sn)).heap[m]? = some (.cells #[.int .i64 P, .int .i64 T, .int .i64 R, .int .i64 t, .int .u64 v, .int .i64 0, .int .u64 hd, .int .u64 sn, .bool fl] 131 (0, 0)) := Hp.blk_set HP1.out 7 _
  refine hK.out _ _ ⟨_, HP2⟩ ?_
  clear hK KK c7 d7
  try simp only [Act.put, List.setIfInBounds_toArray, List.set_cons_zero, List.set_cons_succ]
  refine Rg.Upto.done (by kernel_rfl) ?_
  have hnt := (duo_nt HS.out HP1.out (by decide))
  replace HS := Lib.hid (HS.out.fr ((Fr.refl (fun k => k = m) w4).setCell ⟨m, 7, none⟩ (.int .u64 sn) (.inl rfl)) (fun k _ e => by subst e; exact hnt))
  replace HF := Lib.hid (HF.out.setCell ⟨m, 7, none⟩ (.int .u64 sn) (.inl (.inl rfl)))
  replace HB := Lib.hid (HB.out.setCell (p := ⟨m, 7, none⟩) HBm.out (.int .u64 sn))
  clear HSC hnt HP1
  generalize w4.setCell ⟨m, 7, none⟩ (.int .u64 sn) = w6 at HP2 HS HF HB ⊢
  obtain ⟨c5, d5⟩ := Hp.blk_cell HP2 5 rfl
  have HP3 := Lib.hid HP2
  clear HP2
  go_wp2_with (fail)
  go_ret
  have hnt := (duo_nt HS.out HP3.out (by decide))
  rw [← HSN.out]
  exact ⟨rfl, Hp.blk_set HP3.out 5 _, HS.out.fr ((Fr.refl (fun k => k = m) w6).setCell ⟨m, 5, none⟩ (.int .i64 1) (.inl rfl)) (fun k _ e => by subst e; exact hnt), HB.out.setCell (p := ⟨m, 5, none⟩) HBm.out _, HF.out.setCell ⟨m, 5, none⟩ _ (.inl (.inl rfl))⟩

set_option maxHeartbeats 2000000 in
set_option maxRecDepth 100000 in
theorem push_step1full {B am cc : Nat} {t2 : AS} {qs : List (Nat × Int × Bool)} {w : World} {a c p : Nat} {s : AS} {who : Int} {ps : List (Nat × Int × Bool)} {P T R t v hd tl : Int} {fl : Bool} {q : Int} (hs : SysD am cc t2 qs B w a c s ps) (i : Nat) (hi : ps[i]? = some (p, who, true)) (m : Nat) (h : IsPush w m ⟨P, T, R, t, v, 1, hd, tl, fl⟩) (hB : B ≤ m) (hq : layout_Plan_Head.f P T R t = some q) (hl : s.log.length ≤ 1000000) (hz : IntKind.u64.wrap R ≤ IntKind.u64.wrap (tl - (s.acc true who 1 q 0 0).2)) :
    Calls Try.prog 51 #[.pointer (some ⟨m, 0, none⟩), .pointer (some ⟨p, 0, none⟩)] w fun e w' => e = .returned (.bool true) ∧ IsPush w' m ⟨P, T, R, t, v, 4, (s.acc true who 1 q 0 0).2, tl, true⟩ ∧ SysD am cc t2 qs B w' a c (s.acc true who 1 q 0 0).1 (ps.set i (p, who, false)) ∧ Below B w w' ∧ Fr (fun k => k = m ∨ TouchD c cc w k) w w' := by
  have h' : w.heap[m]? = some (.cells #[.int .i64 P, .int .i64 T, .int .i64 R, .int .i64 t, .int .u64 v, .int .i64 1, .int .u64 hd, .int .u64 tl, .bool fl] 131 (0, 0)) := h
  have HO := Lib.hid (hs.open_ i hi)
  have HS := Lib.hid hs
  have HQ := Lib.hid hq
  have HI := Lib.hid hi
  have HL := Lib.hid hl
  obtain ⟨c5, -⟩ := Hp.blk_cell h' 5 rfl
  have HP := Lib.hid h'
  have HB := Lib.hid (Below.refl B w)
  have HF := Lib.hid (Fr.refl (fun k => k = m ∨ TouchD c cc w k) w)
  have HBm := Lib.hid hB
  have HZ := Lib.hid hz
  clear hs hi h h' hq hl hB hz
  go_enter Try.func51, Try.ntmps51
  go_upto_region 9 with (first | (go_at_call 47; (refine HO.out.mono ?_; clear HO; rintro e w2 ⟨rfl, rfl⟩)))
  clear c5
  replace HS := Lib.hid (HS.out.still ((Fr.refl _ _).drew))
  replace HB := Lib.hid HB.out.drew
  replace HF := Lib.hid HF.out.drew
  have HP1 : Hid (w2.drew.heap[m]? = some (.cells #[.int .i64 P, .int .i64 T, .int .i64 R, .int .i64 t, .int .u64 v, .int .i64 1, .int .u64 hd, .int .u64 tl, .bool fl] 131 (0, 0))) := Lib.hid HP.out
  clear HP
  refine Rg.Upto.start (fun w' => ∃ y, w'.heap[m]? = some (.cells #[.int .i64 P, .int .i64 T, .int .i64 R, .int .i64 t, .int .u64 v, .int .i64 1, .int .u64 y, .int .u64 tl, .bool fl] 131 (0, 0))) 1000 (by kernel_rfl) ⟨_, HP1.out⟩ (fun HS0 => ?_)
  have HSC := HS0
  clear HS0
  refine Rg.Upto.takeA (i := 0) (v := ?_) rfl (by kernel_rfl) (by kernel_rfl) (by kernel_rfl) (of_decide_eq_true (by kernel_rfl)) (fun _ _ _ h => h) (by rfl) (fun w5 hS5 => ?_) HSC ?_
  rotate_left
  · obtain ⟨y, hS5⟩ := hS5
    clear hS5
    go_simp
    try rfl
  try simp only [Act.put, List.setIfInBounds_toArray, List.set_cons_zero, List.set_cons_succ]
  refine Rg.Upto.takeA (i := 1) (v := ?_) rfl (by kernel_rfl) (by kernel_rfl) (by kernel_rfl) (of_decide_eq_true (by kernel_rfl)) (fun _ _ _ h => h) (by rfl) (fun w5 hS5 => ?_) HSC ?_
  rotate_left
  · obtain ⟨y, hS5⟩ := hS5
    clear hS5
    go_simp
    try rfl
  try simp only [Act.put, List.setIfInBounds_toArray, List.set_cons_zero, List.set_cons_succ]
  refine Rg.Upto.takeA (i := 2) (v := ?_) rfl (by kernel_rfl) (by kernel_rfl) (by kernel_rfl) (of_decide_eq_true (by kernel_rfl)) (fun _ _ _ h => h) (by rfl) (fun w5 hS5 => ?_) HSC ?_
  rotate_left
  · obtain ⟨y, hS5⟩ := hS5
    clear hS5
    go_simp
    try rfl
  try simp only [Act.put, List.setIfInBounds_toArray, List.set_cons_zero, List.set_cons_succ]
  refine Rg.Upto.takeA (i := 3) (v := ?_) rfl (by kernel_rfl) (by kernel_rfl) (by kernel_rfl) (of_decide_eq_true (by kernel_rfl)) (fun _ _ _ h => h) (by rfl) (fun w5 hS5 => ?_) HSC ?_
  rotate_left
  · obtain ⟨y, hS5⟩ := hS5
    clear hS5
    go_simp
    try rfl
  try simp only [Act.put, List.setIfInBounds_toArray, List.set_cons_zero, List.set_cons_succ]
  refine Rg.Upto.takeA (i := 4) (v := ?_) rfl (by kernel_rfl) (by kernel_rfl) (by kernel_rfl) (of_decide_eq_true (by kernel_rfl)) (fun _ _ _ h => h) (by rfl) (fun w5 hS5 => ?_) HSC ?_
  rotate_left
  · obtain ⟨y, hS5⟩ := hS5
    clear hS5
    go_simp
    try rfl
  try simp only [Act.put, List.setIfInBounds_toArray, List.set_cons_zero, List.set_cons_succ]
  refine Rg.Upto.takeA (i := 5) (v := ?_) rfl (by kernel_rfl) (by kernel_rfl) (by kernel_rfl) (of_decide_eq_true (by kernel_rfl)) (fun _ _ _ h => h) (by rfl) (fun w5 hS5 => ?_) HSC ?_
  rotate_left
  · obtain ⟨y, hS5⟩ := hS5
    have c0 := (Hp.blk_cell hS5 0 rfl).1
    have c1 := (Hp.blk_cell hS5 1 rfl).1
    have c2 := (Hp.blk_cell hS5 2 rfl).1
    clear hS5
    go_simp
    try rfl
  try simp only [Act.put, List.setIfInBounds_toArray, List.set_cons_zero, List.set_cons_succ]
  refine Rg.Upto.takeA (i := 6) (v := ?_) rfl (by kernel_rfl) (by kernel_rfl) (by kernel_rfl) (of_decide_eq_true (by kernel_rfl)) (fun _ _ _ h => h) (by rfl) (fun w5 hS5 => ?_) HSC ?_
  rotate_left
  · obtain ⟨y, hS5⟩ := hS5
    clear hS5
    go_simp
    try rfl
  try simp only [Act.put, List.setIfInBounds_toArray, List.set_cons_zero, List.set_cons_succ]
  refine Rg.Upto.takeA (i := 7) (v := ?_) rfl (by kernel_rfl) (by kernel_rfl) (by kernel_rfl) (of_decide_eq_true (by kernel_rfl)) (fun _ _ _ h => h) (by rfl) (fun w5 hS5 => ?_) HSC ?_
  rotate_left
  · obtain ⟨y, hS5⟩ := hS5
    clear hS5
    go_simp
    try rfl
  try simp only [Act.put, List.setIfInBounds_toArray, List.set_cons_zero, List.set_cons_succ]
  refine Rg.Upto.takeA (i := 8) (v := ?_) rfl (by kernel_rfl) (by kernel_rfl) (by kernel_rfl) (of_decide_eq_true (by kernel_rfl)) (fun _ _ _ h => h) (by rfl) (fun w5 hS5 => ?_) HSC ?_
  rotate_left
  · obtain ⟨y, hS5⟩ := hS5
    clear hS5
    go_simp
    try rfl
  try simp only [Act.put, List.setIfInBounds_toArray, List.set_cons_zero, List.set_cons_succ]
  refine Rg.Upto.takeA (i := 9) (v := ?_) rfl (by kernel_rfl) (by kernel_rfl) (by kernel_rfl) (of_decide_eq_true (by kernel_rfl)) (fun _ _ _ h => h) (by rfl) (fun w5 hS5 => ?_) HSC ?_
  rotate_left
  · obtain ⟨y, hS5⟩ := hS5
    have c3 := (Hp.blk_cell hS5 3 rfl).1
    clear hS5
    go_simp
    try rfl
  try simp only [Act.put, List.setIfInBounds_toArray, List.set_cons_zero, List.set_cons_succ]
  refine Rg.Upto.one (i := 10) rfl (by kernel_rfl) (by rfl) (fun KK hK => ?_)
  go_simp
  refine (layout_Plan_Head.calls P T R t q _ HQ.out).mono ?_
  rintro e w3 ⟨rfl, hb⟩
  have HP := Lib.hid (blk_below HP1.out hb)
  clear HP1 HSC
  replace HB := Lib.hid (HB.out.trans (hb.mono HS.out.base.1))
  replace HS := Lib.hid (HS.out.below hb)
  replace HF := Lib.hid (HF.out.below hb)
  refine hK.out _ _ ⟨_, HP.out⟩ ?_
  clear hK KK hb
  try simp only [Act.put, List.setIfInBounds_toArray, List.set_cons_zero, List.set_cons_succ]
  obtain ⟨sn, hsn⟩ : ∃ sn, sn = (s.acc true who 1 q 0 0).2 := ⟨_, rfl⟩
  have HSN := Lib.hid hsn
  clear hsn
  refine Rg.Upto.one (i := 11) rfl (by kernel_rfl) (by rfl) (fun KK hK => ?_)
  go_simp
  have hm := HS.out.load i q HI.out HL.out
  rw [← HSN.out] at hm
  refine hm.mono ?_
  clear hm
  rintro e w4 ⟨rfl, hD⟩
  have HP1 := Lib.hid (hD.fr.blk HP.out ((duo_nt HS.out HP.out (by decide))))
  have hF2 := HF.out.then hD.fr (touch_backD HF.out)
  replace HB := Lib.hid (HB.out.trans hD.bel)
  clear HF HS HP
  have HF := Lib.hid hF2
  have HS := Lib.hid hD.duo
  refine hK.out _ _ ⟨_, HP1.out⟩ ?_
  clear hK KK hD hF2
  have HSC : ∃ y, w4.heap[m]? = some (.cells #[.int .i64 P, .int .i64 T, .int .i64 R, .int .i64 t, .int .u64 v, .int .i64 1, .int .u64 y, .int .u64 tl, .bool fl] 131 (0, 0)) := ⟨_, HP1.out⟩
  try simp only [Act.put, List.setIfInBounds_toArray, List.set_cons_zero, List.set_cons_succ]
  refine Rg.Upto.takeA (i := 12) (v := ?_) rfl (by kernel_rfl) (by kernel_rfl) (by kernel_rfl) (of_decide_eq_true (by kernel_rfl)) (fun _ _ _ h => h) (by rfl) (fun w5 hS5 => ?_) HSC ?_
  rotate_left
  · obtain ⟨y, hS5⟩ := hS5
    clear hS5
    go_simp
    try rfl
  try simp only [Act.put, List.setIfInBounds_toArray, List.set_cons_zero, List.set_cons_succ]
  refine Rg.Upto.takeA (i := 13) (v := ?_) rfl (by kernel_rfl) (by kernel_rfl) (by kernel_rfl) (of_decide_eq_true (by kernel_rfl)) (fun _ _ _ h => h) (by rfl) (fun w5 hS5 => ?_) HSC ?_
  rotate_left
  · obtain ⟨y, hS5⟩ := hS5
    clear hS5
    go_simp
    try rfl
  try simp only [Act.put, List.setIfInBounds_toArray, List.set_cons_zero, List.set_cons_succ]
  refine Rg.Upto.one (i := 14) rfl (by kernel_rfl) (by rfl) (fun KK hK => ?_)
  obtain ⟨c6, d6⟩ := Hp.blk_cell HP1.out 6 rfl
  go_simp
  have HP2 : (w4.setCell ⟨m, 6, none⟩ (.int .u64 sn)).heap[m]? = some (.cells #[.int .i64 P, .int .i64 T, .int .i64 R, .int .i64 t, .int .u64 v, .int .i64 1, .int .u64 sn, .int .u64 tl, .bool fl] 131 (0, 0)) := Hp.blk_set HP1.out 6 _
  refine hK.out _ _ ⟨_, HP2⟩ ?_
  clear hK KK c6 d6
  try simp only [Act.put, List.setIfInBounds_toArray, List.set_cons_zero, List.set_cons_succ]
  refine Rg.Upto.done (by kernel_rfl) ?_
  have hnt := (duo_nt HS.out HP1.out (by decide))
  replace HS := Lib.hid (HS.out.fr ((Fr.refl (fun k => k = m) w4).setCell ⟨m, 6, none⟩ (.int .u64 sn) (.inl rfl)) (fun k _ e => by subst e; exact hnt))
  replace HF := Lib.hid (HF.out.setCell ⟨m, 6, none⟩ (.int .u64 sn) (.inl (.inl rfl)))
  replace HB := Lib.hid (HB.out.setCell (p := ⟨m, 6, none⟩) HBm.out (.int .u64 sn))
  clear HSC hnt HP1
  generalize w4.setCell ⟨m, 6, none⟩ (.int .u64 sn) = w6 at HP2 HS HF HB ⊢
  obtain ⟨c5, d5⟩ := Hp.blk_cell HP2 5 rfl
  have HP3 := Lib.hid HP2
  clear HP2
  go_upto_region 10 with (fail)
  replace HS := Lib.hid (HS.out.still ((Fr.refl _ _).drew))
  replace HB := Lib.hid HB.out.drew
  replace HF := Lib.hid HF.out.drew
  have HP4 : Hid (w6.drew.heap[m]? = some (.cells #[.int .i64 P, .int .i64 T, .int .i64 R, .int .i64 t, .int .u64 v, .int .i64 1, .int .u64 sn, .int .u64 tl, .bool fl] 131 (0, 0))) := Lib.hid HP3.out
  clear HP3 c5 d5
  refine Rg.Upto.start (fun w' => w'.heap[m]? = some (.cells #[.int .i64 P, .int .i64 T, .int .i64 R, .int .i64 t, .int .u64 v, .int .i64 1, .int .u64 sn, .int .u64 tl, .bool fl] 131 (0, 0))) 1000 (by kernel_rfl) HP4.out (fun HS0 => ?_)
  have HSC := HS0
  clear HS0
  refine Rg.Upto.takeA (i := 0) (v := ?_) rfl (by kernel_rfl) (by kernel_rfl) (by kernel_rfl) (of_decide_eq_true (by kernel_rfl)) (fun _ _ _ h => h) (by rfl) (fun w5 hS5 => ?_) HSC ?_
  rotate_left
  · clear hS5
    go_simp
    try rfl
  try simp only [Act.put, List.setIfInBounds_toArray, List.set_cons_zero, List.set_cons_succ]
  refine Rg.Upto.takeA (i := 1) (v := ?_) rfl (by kernel_rfl) (by kernel_rfl) (by kernel_rfl) (of_decide_eq_true (by kernel_rfl)) (fun _ _ _ h => h) (by rfl) (fun w5 hS5 => ?_) HSC ?_
  rotate_left
  · clear hS5
    go_simp
    try rfl
  try simp only [Act.put, List.setIfInBounds_toArray, List.set_cons_zero, List.set_cons_succ]
  refine Rg.Upto.takeA (i := 2) (v := ?_) rfl (by kernel_rfl) (by kernel_rfl) (by kernel_rfl) (of_decide_eq_true (by kernel_rfl)) (fun _ _ _ h => h) (by rfl) (fun w5 hS5 => ?_) HSC ?_
  rotate_left
  · clear hS5
    go_simp
    try rfl
  try simp only [Act.put, List.setIfInBounds_toArray, List.set_cons_zero, List.set_cons_succ]
  refine Rg.Upto.takeA (i := 3) (v := ?_) rfl (by kernel_rfl) (by kernel_rfl) (by kernel_rfl) (of_decide_eq_true (by kernel_rfl)) (fun _ _ _ h => h) (by rfl) (fun w5 hS5 => ?_) HSC ?_
  rotate_left
  · have c7 := (Hp.blk_cell hS5 7 rfl).1
    clear hS5
    go_simp
    try rfl
  try simp only [Act.put, List.setIfInBounds_toArray, List.set_cons_zero, List.set_cons_succ]
  refine Rg.Upto.takeA (i := 4) (v := ?_) rfl (by kernel_rfl) (by kernel_rfl) (by kernel_rfl) (of_decide_eq_true (by kernel_rfl)) (fun _ _ _ h => h) (by rfl) (fun w5 hS5 => ?_) HSC ?_
  rotate_left
  · clear hS5
    go_simp
    try rfl
  try simp only [Act.put, List.setIfInBounds_toArray, List.set_cons_zero, List.set_cons_succ]
  refine Rg.Upto.takeA (i := 5) (v := ?_) rfl (by kernel_rfl) (by kernel_rfl) (by kernel_rfl) (of_decide_eq_true (by kernel_rfl)) (fun _ _ _ h => h) (by rfl) (fun w5 hS5 => ?_) HSC ?_
  rotate_left
  · clear hS5
    go_simp
    try rfl
  try simp only [Act.put, List.setIfInBounds_toArray, List.set_cons_zero, List.set_cons_succ]
  refine Rg.Upto.takeA (i := 6) (v := ?_) rfl (by kernel_rfl) (by kernel_rfl) (by kernel_rfl) (of_decide_eq_true (by kernel_rfl)) (fun _ _ _ h => h) (by rfl) (fun w5 hS5 => ?_) HSC ?_
  rotate_left
  · clear hS5
    go_simp
    try rfl
  try simp only [Act.put, List.setIfInBounds_toArray, List.set_cons_zero, List.set_cons_succ]
  refine Rg.Upto.takeA (i := 7) (v := ?_) rfl (by kernel_rfl) (by kernel_rfl) (by kernel_rfl) (of_decide_eq_true (by kernel_rfl)) (fun _ _ _ h => h) (by rfl) (fun w5 hS5 => ?_) HSC ?_
  rotate_left
  · have c6 := (Hp.blk_cell hS5 6 rfl).1
    clear hS5
    go_simp
    try rfl
  try simp only [Act.put, List.setIfInBounds_toArray, List.set_cons_zero, List.set_cons_succ]
  refine Rg.Upto.takeA (i := 8) (v := ?_) rfl (by kernel_rfl) (by kernel_rfl) (by kernel_rfl) (of_decide_eq_true (by kernel_rfl)) (fun _ _ _ h => h) (by rfl) (fun w5 hS5 => ?_) HSC ?_
  rotate_left
  · clear hS5
    go_simp
    try rfl
  try simp only [Act.put, List.setIfInBounds_toArray, List.set_cons_zero, List.set_cons_succ]
  refine Rg.Upto.takeA (i := 9) (v := ?_) rfl (by kernel_rfl) (by kernel_rfl) (by kernel_rfl) (of_decide_eq_true (by kernel_rfl)) (fun _ _ _ h => h) (by rfl) (fun w5 hS5 => ?_) HSC ?_
  rotate_left
  · clear hS5
    go_simp
    try rfl
  try simp only [Act.put, List.setIfInBounds_toArray, List.set_cons_zero, List.set_cons_succ]
  refine Rg.Upto.takeA (i := 10) (v := ?_) rfl (by kernel_rfl) (by kernel_rfl) (by kernel_rfl) (of_decide_eq_true (by kernel_rfl)) (fun _ _ _ h => h) (by rfl) (fun w5 hS5 => ?_) HSC ?_
  rotate_left
  · clear hS5
    go_simp
    try rfl
  try simp only [Act.put, List.setIfInBounds_toArray, List.set_cons_zero, List.set_cons_succ]
  refine Rg.Upto.takeA (i := 11) (v := ?_) rfl (by kernel_rfl) (by kernel_rfl) (by kernel_rfl) (of_decide_eq_true (by kernel_rfl)) (fun _ _ _ h => h) (by rfl) (fun w5 hS5 => ?_) HSC ?_
  rotate_left
  · clear hS5
    go_simp
    try rfl
  try simp only [Act.put, List.setIfInBounds_toArray, List.set_cons_zero, List.set_cons_succ]
  refine Rg.Upto.takeA (i := 12) (v := ?_) rfl (by kernel_rfl) (by kernel_rfl) (by kernel_rfl) (of_decide_eq_true (by kernel_rfl)) (fun _ _ _ h => h) (by rfl) (fun w5 hS5 => ?_) HSC ?_
  rotate_left
  · clear hS5
    go_simp
    try rfl
  try simp only [Act.put, List.setIfInBounds_toArray, List.set_cons_zero, List.set_cons_succ]
  refine Rg.Upto.takeA (i := 13) (v := ?_) rfl (by kernel_rfl) (by kernel_rfl) (by kernel_rfl) (of_decide_eq_true (by kernel_rfl)) (fun _ _ _ h => h) (by rfl) (fun w5 hS5 => ?_) HSC ?_
  rotate_left
  · have c2 := (Hp.blk_cell hS5 2 rfl).1
    clear hS5
    go_simp
    try rfl
  try simp only [Act.put, List.setIfInBounds_toArray, List.set_cons_zero, List.set_cons_succ]
  refine Rg.Upto.takeA (i := 14) (v := ?_) rfl (by kernel_rfl) (by kernel_rfl) (by kernel_rfl) (of_decide_eq_true (by kernel_rfl)) (fun _ _ _ h => h) (by rfl) (fun w5 hS5 => ?_) HSC ?_
  rotate_left
  · clear hS5
    go_simp
    try rfl
  try simp only [Act.put, List.setIfInBounds_toArray, List.set_cons_zero, List.set_cons_succ]
  refine Rg.Upto.takeA (i := 15) (v := ?_) rfl (by kernel_rfl) (by kernel_rfl) (by kernel_rfl) (of_decide_eq_true (by kernel_rfl)) (fun _ _ _ h => h) (by rfl) (fun w5 hS5 => ?_) HSC ?_
  rotate_left
  · clear hS5
    go_simp
    try rfl
  try simp only [Act.put, List.setIfInBounds_toArray, List.set_cons_zero, List.set_cons_succ]
  refine Rg.Upto.done (by kernel_rfl) ?_
  clear HSC
  obtain ⟨c5, d5⟩ := Hp.blk_cell (w := w6) HP4.out 5 rfl
  obtain ⟨c8, d8⟩ := Hp.blk_cell (w := w6) HP4.out 8 rfl
  have hz := HZ.out
  rw [← HSN.out] at hz
  have z1 := decide_eq_true (p := IntKind.u64.wrap R ≤ IntKind.u64.wrap (tl - sn)) (by omega)
  go_wp2_with (fail)
  go_ret
  have hnt := (duo_nt HS.out HP4.out (by decide))
  rw [← HSN.out]
  exact ⟨rfl, Hp.blk_set (Hp.blk_set HP4.out 8 (.bool true)) 5 _, HS.out.fr (((Fr.refl (fun k => k = m) w6.drew).setCell ⟨m, 8, none⟩ (.bool true) (.inl rfl)).setCell ⟨m, 5, none⟩ (.int .i64 4) (.inl rfl)) (fun k _ e => by subst e; exact hnt), (HB.out.setCell (p := ⟨m, 8, none⟩) HBm.out _).setCell (p := ⟨m, 5, none⟩) HBm.out _, (HF.out.setCell ⟨m, 8, none⟩ _ (.inl (.inl rfl))).setCell ⟨m, 5, none⟩ _ (.inl (.inl rfl))⟩

set_option maxHeartbeats 2000000 in
set_option maxRecDepth 100000 in
theorem push_step1room {B am cc : Nat} {t2 : AS} {qs : List (Nat × Int × Bool)} {w : World} {a c p : Nat} {s : AS} {who : Int} {ps : List (Nat × Int × Bool)} {P T R t v hd tl : Int} {fl : Bool} {q : Int} (hs : SysD am cc t2 qs B w a c s ps) (i : Nat) (hi : ps[i]? = some (p, who, true)) (m : Nat) (h : IsPush w m ⟨P, T, R, t, v, 1, hd, tl, fl⟩) (hB : B ≤ m) (hq : layout_Plan_Head.f P T R t = some q) (hl : s.log.length ≤ 1000000) (hz : ¬ IntKind.u64.wrap R ≤ IntKind.u64.wrap (tl - (s.acc true who 1 q 0 0).2)) :
    Calls Try.prog 51 #[.pointer (some ⟨m, 0, none⟩), .pointer (some ⟨p, 0, none⟩)] w fun e w' => e = .returned (.bool false) ∧ IsPush w' m ⟨P, T, R, t, v, 2, (s.acc true who 1 q 0 0).2, tl, fl⟩ ∧ SysD am cc t2 qs B w' a c (s.acc true who 1 q 0 0).1 (ps.set i (p, who, false)) ∧ Below B w w' ∧ Fr (fun k => k = m ∨ TouchD c cc w k) w w' := by
  have h' : w.heap[m]? = some (.cells #[.int .i64 P, .int .i64 T, .int .i64 R, .int .i64 t, .int .u64 v, .int .i64 1, .int .u64 hd, .int .u64 tl, .bool fl] 131 (0, 0)) := h
  have HO := Lib.hid (hs.open_ i hi)
  have HS := Lib.hid hs
  have HQ := Lib.hid hq
  have HI := Lib.hid hi
  have HL := Lib.hid hl
  obtain ⟨c5, -⟩ := Hp.blk_cell h' 5 rfl
  have HP := Lib.hid h'
  have HB := Lib.hid (Below.refl B w)
  have HF := Lib.hid (Fr.refl (fun k => k = m ∨ TouchD c cc w k) w)
  have HBm := Lib.hid hB
  have HZ := Lib.hid hz
  clear hs hi h h' hq hl hB hz
  go_enter Try.func51, Try.ntmps51
  go_upto_region 9 with (first | (go_at_call 47; (refine HO.out.mono ?_; clear HO; rintro e w2 ⟨rfl, rfl⟩)))
  clear c5
  replace HS := Lib.hid (HS.out.still ((Fr.refl _ _).drew))
  replace HB := Lib.hid HB.out.drew
  replace HF := Lib.hid HF.out.drew
  have HP1 : Hid (w2.drew.heap[m]? = some (.cells #[.int .i64 P, .int .i64 T, .int .i64 R, .int .i64 t, .int .u64 v, .int .i64 1, .int .u64 hd, .int .u64 tl, .bool fl] 131 (0, 0))) := Lib.hid HP.out
  clear HP
  refine Rg.Upto.start (fun w' => ∃ y, w'.heap[m]? = some (.cells #[.int .i64 P, .int .i64 T, .int .i64 R, .int .i64 t, .int .u64 v, .int .i64 1, .int .u64 y, .int .u64 tl, .bool fl] 131 (0, 0))) 1000 (by kernel_rfl) ⟨_, HP1.out⟩ (fun HS0 => ?_)
  have HSC := HS0
  clear HS0
  refine Rg.Upto.takeA (i := 0) (v := ?_) rfl (by kernel_rfl) (by kernel_rfl) (by kernel_rfl) (of_decide_eq_true (by kernel_rfl)) (fun _ _ _ h => h) (by rfl) (fun w5 hS5 => ?_) HSC ?_
  rotate_left
  · obtain ⟨y, hS5⟩ := hS5
    clear hS5
    go_simp
    try rfl
  try simp only [Act.put, List.setIfInBounds_toArray, List.set_cons_zero, List.set_cons_succ]
  refine Rg.Upto.takeA (i := 1) (v := ?_) rfl (by kernel_rfl) (by kernel_rfl) (by kernel_rfl) (of_decide_eq_true (by kernel_rfl)) (fun _ _ _ h => h) (by rfl) (fun w5 hS5 => ?_) HSC ?_
  rotate_left
  · obtain ⟨y, hS5⟩ := hS5
    clear hS5
    go_simp
    try rfl
  try simp only [Act.put, List.setIfInBounds_toArray, List.set_cons_zero, List.set_cons_succ]
  refine Rg.Upto.takeA (i := 2) (v := ?_) rfl (by kernel_rfl) (by kernel_rfl) (by kernel_rfl) (of_decide_eq_true (by kernel_rfl)) (fun _ _ _ h => h) (by rfl) (fun w5 hS5 => ?_) HSC ?_
  rotate_left
  · obtain ⟨y, hS5⟩ := hS5
    clear hS5
    go_simp
    try rfl
  try simp only [Act.put, List.setIfInBounds_toArray, List.set_cons_zero, List.set_cons_succ]
  refine Rg.Upto.takeA (i := 3) (v := ?_) rfl (by kernel_rfl) (by kernel_rfl) (by kernel_rfl) (of_decide_eq_true (by kernel_rfl)) (fun _ _ _ h => h) (by rfl) (fun w5 hS5 => ?_) HSC ?_
  rotate_left
  · obtain ⟨y, hS5⟩ := hS5
    clear hS5
    go_simp
    try rfl
  try simp only [Act.put, List.setIfInBounds_toArray, List.set_cons_zero, List.set_cons_succ]
  refine Rg.Upto.takeA (i := 4) (v := ?_) rfl (by kernel_rfl) (by kernel_rfl) (by kernel_rfl) (of_decide_eq_true (by kernel_rfl)) (fun _ _ _ h => h) (by rfl) (fun w5 hS5 => ?_) HSC ?_
  rotate_left
  · obtain ⟨y, hS5⟩ := hS5
    clear hS5
    go_simp
    try rfl
  try simp only [Act.put, List.setIfInBounds_toArray, List.set_cons_zero, List.set_cons_succ]
  refine Rg.Upto.takeA (i := 5) (v := ?_) rfl (by kernel_rfl) (by kernel_rfl) (by kernel_rfl) (of_decide_eq_true (by kernel_rfl)) (fun _ _ _ h => h) (by rfl) (fun w5 hS5 => ?_) HSC ?_
  rotate_left
  · obtain ⟨y, hS5⟩ := hS5
    have c0 := (Hp.blk_cell hS5 0 rfl).1
    have c1 := (Hp.blk_cell hS5 1 rfl).1
    have c2 := (Hp.blk_cell hS5 2 rfl).1
    clear hS5
    go_simp
    try rfl
  try simp only [Act.put, List.setIfInBounds_toArray, List.set_cons_zero, List.set_cons_succ]
  refine Rg.Upto.takeA (i := 6) (v := ?_) rfl (by kernel_rfl) (by kernel_rfl) (by kernel_rfl) (of_decide_eq_true (by kernel_rfl)) (fun _ _ _ h => h) (by rfl) (fun w5 hS5 => ?_) HSC ?_
  rotate_left
  · obtain ⟨y, hS5⟩ := hS5
    clear hS5
    go_simp
    try rfl
  try simp only [Act.put, List.setIfInBounds_toArray, List.set_cons_zero, List.set_cons_succ]
  refine Rg.Upto.takeA (i := 7) (v := ?_) rfl (by kernel_rfl) (by kernel_rfl) (by kernel_rfl) (of_decide_eq_true (by kernel_rfl)) (fun _ _ _ h => h) (by rfl) (fun w5 hS5 => ?_) HSC ?_
  rotate_left
  · obtain ⟨y, hS5⟩ := hS5
    clear hS5
    go_simp
    try rfl
  try simp only [Act.put, List.setIfInBounds_toArray, List.set_cons_zero, List.set_cons_succ]
  refine Rg.Upto.takeA (i := 8) (v := ?_) rfl (by kernel_rfl) (by kernel_rfl) (by kernel_rfl) (of_decide_eq_true (by kernel_rfl)) (fun _ _ _ h => h) (by rfl) (fun w5 hS5 => ?_) HSC ?_
  rotate_left
  · obtain ⟨y, hS5⟩ := hS5
    clear hS5
    go_simp
    try rfl
  try simp only [Act.put, List.setIfInBounds_toArray, List.set_cons_zero, List.set_cons_succ]
  refine Rg.Upto.takeA (i := 9) (v := ?_) rfl (by kernel_rfl) (by kernel_rfl) (by kernel_rfl) (of_decide_eq_true (by kernel_rfl)) (fun _ _ _ h => h) (by rfl) (fun w5 hS5 => ?_) HSC ?_
  rotate_left
  · obtain ⟨y, hS5⟩ := hS5
    have c3 := (Hp.blk_cell hS5 3 rfl).1
    clear hS5
    go_simp
    try rfl
  try simp only [Act.put, List.setIfInBounds_toArray, List.set_cons_zero, List.set_cons_succ]
  refine Rg.Upto.one (i := 10) rfl (by kernel_rfl) (by rfl) (fun KK hK => ?_)
  go_simp
  refine (layout_Plan_Head.calls P T R t q _ HQ.out).mono ?_
  rintro e w3 ⟨rfl, hb⟩
  have HP := Lib.hid (blk_below HP1.out hb)
  clear HP1 HSC
  replace HB := Lib.hid (HB.out.trans (hb.mono HS.out.base.1))
  replace HS := Lib.hid (HS.out.below hb)
  replace HF := Lib.hid (HF.out.below hb)
  refine hK.out _ _ ⟨_, HP.out⟩ ?_
  clear hK KK hb
  try simp only [Act.put, List.setIfInBounds_toArray, List.set_cons_zero, List.set_cons_succ]
  obtain ⟨sn, hsn⟩ : ∃ sn, sn = (s.acc true who 1 q 0 0).2 := ⟨_, rfl⟩
  have HSN := Lib.hid hsn
  clear hsn
  refine Rg.Upto.one (i := 11) rfl (by kernel_rfl) (by rfl) (fun KK hK => ?_)
  go_simp
  have hm := HS.out.load i q HI.out HL.out
  rw [← HSN.out] at hm
  refine hm.mono ?_
  clear hm
  rintro e w4 ⟨rfl, hD⟩
  have HP1 := Lib.hid (hD.fr.blk HP.out ((duo_nt HS.out HP.out (by decide))))
  have hF2 := HF.out.then hD.fr (touch_backD HF.out)
  replace HB := Lib.hid (HB.out.trans hD.bel)
  clear HF HS HP
  have HF := Lib.hid hF2
  have HS := Lib.hid hD.duo
  refine hK.out _ _ ⟨_, HP1.out⟩ ?_
  clear hK KK hD hF2
  have HSC : ∃ y, w4.heap[m]? = some (.cells #[.int .i64 P, .int .i64 T, .int .i64 R, .int .i64 t, .int .u64 v, .int .i64 1, .int .u64 y, .int .u64 tl, .bool fl] 131 (0, 0)) := ⟨_, HP1.out⟩
  try simp only [Act.put, List.setIfInBounds_toArray, List.set_cons_zero, List.set_cons_succ]
  refine Rg.Upto.takeA (i := 12) (v := ?_) rfl (by kernel_rfl) (by kernel_rfl) (by kernel_rfl) (of_decide_eq_true (by kernel_rfl)) (fun _ _ _ h => h) (by rfl) (fun w5 hS5 => ?_) HSC ?_
  rotate_left
  · obtain ⟨y, hS5⟩ := hS5
    clear hS5
    go_simp
    try rfl
  try simp only [Act.put, List.setIfInBounds_toArray, List.set_cons_zero, List.set_cons_succ]
  refine Rg.Upto.takeA (i := 13) (v := ?_) rfl (by kernel_rfl) (by kernel_rfl) (by kernel_rfl) (of_decide_eq_true (by kernel_rfl)) (fun _ _ _ h => h) (by rfl) (fun w5 hS5 => ?_) HSC ?_
  rotate_left
  · obtain ⟨y, hS5⟩ := hS5
    clear hS5
    go_simp
    try rfl
  try simp only [Act.put, List.setIfInBounds_toArray, List.set_cons_zero, List.set_cons_succ]
  refine Rg.Upto.one (i := 14) rfl (by kernel_rfl) (by rfl) (fun KK hK => ?_)
  obtain ⟨c6, d6⟩ := Hp.blk_cell HP1.out 6 rfl
  go_simp
  have HP2 : (w4.setCell ⟨m, 6, none⟩ (.int .u64 sn)).heap[m]? = some (.cells #[.int .i64 P, .int .i64 T, .int .i64 R, .int .i64 t, .int .u64 v, .int .i64 1, .int .u64 sn, .int .u64 tl, .bool fl] 131 (0, 0)) := Hp.blk_set HP1.out 6 _
  refine hK.out _ _ ⟨_, HP2⟩ ?_
  clear hK KK c6 d6
  try simp only [Act.put, List.setIfInBounds_toArray, List.set_cons_zero, List.set_cons_succ]
  refine Rg.Upto.done (by kernel_rfl) ?_
  have hnt := (duo_nt HS.out HP1.out (by decide))
  replace HS := Lib.hid (HS.out.fr ((Fr.refl (fun k => k = m) w4).setCell ⟨m, 6, none⟩ (.int .u64 sn) (.inl rfl)) (fun k _ e => by subst e; exact hnt))
  replace HF := Lib.hid (HF.out.setCell ⟨m, 6, none⟩ (.int .u64 sn) (.inl (.inl rfl)))
  replace HB := Lib.hid (HB.out.setCell (p := ⟨m, 6, none⟩) HBm.out (.int .u64 sn))
  clear HSC hnt HP1
  generalize w4.setCell ⟨m, 6, none⟩ (.int .u64 sn) = w6 at HP2 HS HF HB ⊢
  obtain ⟨c5, d5⟩ := Hp.blk_cell HP2 5 rfl
  have HP3 := Lib.hid HP2
  clear HP2
  go_upto_region 10 with (fail)
  replace HS := Lib.hid (HS.out.still ((Fr.refl _ _).drew))
  replace HB := Lib.hid HB.out.drew
  replace HF := Lib.hid HF.out.drew
  have HP4 : Hid (w6.drew.heap[m]? = some (.cells #[.int .i64 P, .int .i64 T, .int .i64 R, .int .i64 t, .int .u64 v, .int .i64 1, .int .u64 sn, .int .u64 tl, .bool fl] 131 (0, 0))) := Lib.hid HP3.out
  clear HP3 c5 d5
  refine Rg.Upto.start (fun w' => w'.heap[m]? = some (.cells #[.int .i64 P, .int .i64 T, .int .i64 R, .int .i64 t, .int .u64 v, .int .i64 1, .int .u64 sn, .int .u64 tl, .bool fl] 131 (0, 0))) 1000 (by kernel_rfl) HP4.out (fun HS0 => ?_)
  have HSC := HS0
  clear HS0
  refine Rg.Upto.takeA (i := 0) (v := ?_) rfl (by kernel_rfl) (by kernel_rfl) (by kernel_rfl) (of_decide_eq_true (by kernel_rfl)) (fun _ _ _ h => h) (by rfl) (fun w5 hS5 => ?_) HSC ?_
  rotate_left
  · clear hS5
    go_simp
    try rfl
  try simp only [Act.put, List.setIfInBounds_toArray, List.set_cons_zero, List.set_cons_succ]
  refine Rg.Upto.takeA (i := 1) (v := ?_) rfl (by kernel_rfl) (by kernel_rfl) (by kernel_rfl) (of_decide_eq_true (by kernel_rfl)) (fun _ _ _ h => h) (by rfl) (fun w5 hS5 => ?_) HSC ?_
  rotate_left
  · clear hS5
    go_simp
    try rfl
  try simp only [Act.put, List.setIfInBounds_toArray, List.set_cons_zero, List.set_cons_succ]
  refine Rg.Upto.takeA (i := 2) (v := ?_) rfl (by kernel_rfl) (by kernel_rfl) (by kernel_rfl) (of_decide_eq_true (by kernel_rfl)) (fun _ _ _ h => h) (by rfl) (fun w5 hS5 => ?_) HSC ?_
  rotate_left
  · clear hS5
    go_simp
    try rfl
  try simp only [Act.put, List.setIfInBounds_toArray, List.set_cons_zero, List.set_cons_succ]
  refine Rg.Upto.takeA (i := 3) (v := ?_) rfl (by kernel_rfl) (by kernel_rfl) (by kernel_rfl) (of_decide_eq_true (by kernel_rfl)) (fun _ _ _ h => h) (by rfl) (fun w5 hS5 => ?_) HSC ?_
  rotate_left
  · have c7 := (Hp.blk_cell hS5 7 rfl).1
    clear hS5
    go_simp
    try rfl
  try simp only [Act.put, List.setIfInBounds_toArray, List.set_cons_zero, List.set_cons_succ]
  refine Rg.Upto.takeA (i := 4) (v := ?_) rfl (by kernel_rfl) (by kernel_rfl) (by kernel_rfl) (of_decide_eq_true (by kernel_rfl)) (fun _ _ _ h => h) (by rfl) (fun w5 hS5 => ?_) HSC ?_
  rotate_left
  · clear hS5
    go_simp
    try rfl
  try simp only [Act.put, List.setIfInBounds_toArray, List.set_cons_zero, List.set_cons_succ]
  refine Rg.Upto.takeA (i := 5) (v := ?_) rfl (by kernel_rfl) (by kernel_rfl) (by kernel_rfl) (of_decide_eq_true (by kernel_rfl)) (fun _ _ _ h => h) (by rfl) (fun w5 hS5 => ?_) HSC ?_
  rotate_left
  · clear hS5
    go_simp
    try rfl
  try simp only [Act.put, List.setIfInBounds_toArray, List.set_cons_zero, List.set_cons_succ]
  refine Rg.Upto.takeA (i := 6) (v := ?_) rfl (by kernel_rfl) (by kernel_rfl) (by kernel_rfl) (of_decide_eq_true (by kernel_rfl)) (fun _ _ _ h => h) (by rfl) (fun w5 hS5 => ?_) HSC ?_
  rotate_left
  · clear hS5
    go_simp
    try rfl
  try simp only [Act.put, List.setIfInBounds_toArray, List.set_cons_zero, List.set_cons_succ]
  refine Rg.Upto.takeA (i := 7) (v := ?_) rfl (by kernel_rfl) (by kernel_rfl) (by kernel_rfl) (of_decide_eq_true (by kernel_rfl)) (fun _ _ _ h => h) (by rfl) (fun w5 hS5 => ?_) HSC ?_
  rotate_left
  · have c6 := (Hp.blk_cell hS5 6 rfl).1
    clear hS5
    go_simp
    try rfl
  try simp only [Act.put, List.setIfInBounds_toArray, List.set_cons_zero, List.set_cons_succ]
  refine Rg.Upto.takeA (i := 8) (v := ?_) rfl (by kernel_rfl) (by kernel_rfl) (by kernel_rfl) (of_decide_eq_true (by kernel_rfl)) (fun _ _ _ h => h) (by rfl) (fun w5 hS5 => ?_) HSC ?_
  rotate_left
  · clear hS5
    go_simp
    try rfl
  try simp only [Act.put, List.setIfInBounds_toArray, List.set_cons_zero, List.set_cons_succ]
  refine Rg.Upto.takeA (i := 9) (v := ?_) rfl (by kernel_rfl) (by kernel_rfl) (by kernel_rfl) (of_decide_eq_true (by kernel_rfl)) (fun _ _ _ h => h) (by rfl) (fun w5 hS5 => ?_) HSC ?_
  rotate_left
  · clear hS5
    go_simp
    try rfl
  try simp only [Act.put, List.setIfInBounds_toArray, List.set_cons_zero, List.set_cons_succ]
  refine Rg.Upto.takeA (i := 10) (v := ?_) rfl (by kernel_rfl) (by kernel_rfl) (by kernel_rfl) (of_decide_eq_true (by kernel_rfl)) (fun _ _ _ h => h) (by rfl) (fun w5 hS5 => ?_) HSC ?_
  rotate_left
  · clear hS5
    go_simp
    try rfl
  try simp only [Act.put, List.setIfInBounds_toArray, List.set_cons_zero, List.set_cons_succ]
  refine Rg.Upto.takeA (i := 11) (v := ?_) rfl (by kernel_rfl) (by kernel_rfl) (by kernel_rfl) (of_decide_eq_true (by kernel_rfl)) (fun _ _ _ h => h) (by rfl) (fun w5 hS5 => ?_) HSC ?_
  rotate_left
  · clear hS5
    go_simp
    try rfl
  try simp only [Act.put, List.setIfInBounds_toArray, List.set_cons_zero, List.set_cons_succ]
  refine Rg.Upto.takeA (i := 12) (v := ?_) rfl (by kernel_rfl) (by kernel_rfl) (by kernel_rfl) (of_decide_eq_true (by kernel_rfl)) (fun _ _ _ h => h) (by rfl) (fun w5 hS5 => ?_) HSC ?_
  rotate_left
  · clear hS5
    go_simp
    try rfl
  try simp only [Act.put, List.setIfInBounds_toArray, List.set_cons_zero, List.set_cons_succ]
  refine Rg.Upto.takeA (i := 13) (v := ?_) rfl (by kernel_rfl) (by kernel_rfl) (by kernel_rfl) (of_decide_eq_true (by kernel_rfl)) (fun _ _ _ h => h) (by rfl) (fun w5 hS5 => ?_) HSC ?_
  rotate_left
  · have c2 := (Hp.blk_cell hS5 2 rfl).1
    clear hS5
    go_simp
    try rfl
  try simp only [Act.put, List.setIfInBounds_toArray, List.set_cons_zero, List.set_cons_succ]
  refine Rg.Upto.takeA (i := 14) (v := ?_) rfl (by kernel_rfl) (by kernel_rfl) (by kernel_rfl) (of_decide_eq_true (by kernel_rfl)) (fun _ _ _ h => h) (by rfl) (fun w5 hS5 => ?_) HSC ?_
  rotate_left
  · clear hS5
    go_simp
    try rfl
  try simp only [Act.put, List.setIfInBounds_toArray, List.set_cons_zero, List.set_cons_succ]
  refine Rg.Upto.takeA (i := 15) (v := ?_) rfl (by kernel_rfl) (by kernel_rfl) (by kernel_rfl) (of_decide_eq_true (by kernel_rfl)) (fun _ _ _ h => h) (by rfl) (fun w5 hS5 => ?_) HSC ?_
  rotate_left
  · clear hS5
    go_simp
    try rfl
  try simp only [Act.put, List.setIfInBounds_toArray, List.set_cons_zero, List.set_cons_succ]
  refine Rg.Upto.done (by kernel_rfl) ?_
  clear HSC
  obtain ⟨c5, d5⟩ := Hp.blk_cell (w := w6) HP4.out 5 rfl
  obtain ⟨c8, d8⟩ := Hp.blk_cell (w := w6) HP4.out 8 rfl
  have hz := HZ.out
  rw [← HSN.out] at hz
  have z1 := decide_eq_false (p := IntKind.u64.wrap R ≤ IntKind.u64.wrap (tl - sn)) (by omega)
  go_wp2_with (fail)
  go_ret
  have hnt := (duo_nt HS.out HP4.out (by decide))
  rw [← HSN.out]
  exact ⟨rfl, Hp.blk_set HP4.out 5 _, HS.out.fr ((Fr.refl (fun k => k = m) w6.drew).setCell ⟨m, 5, none⟩ (.int .i64 2) (.inl rfl)) (fun k _ e => by subst e; exact hnt), HB.out.setCell (p := ⟨m, 5, none⟩) HBm.out _, HF.out.setCell ⟨m, 5, none⟩ _ (.inl (.inl rfl))⟩

set_option maxHeartbeats 2000000 in
set_option maxRecDepth 100000 in
theorem push_step2 {B am cc : Nat} {t2 : AS} {qs : List (Nat × Int × Bool)} {w : World} {a c p : Nat} {s : AS} {who : Int} {ps : List (Nat × Int × Bool)} {P T R t v hd tl : Int} {fl : Bool} {q : Int} (hs : SysD am cc t2 qs B w a c s ps) (i : Nat) (hi : ps[i]? = some (p, who, true)) (m : Nat) (h : IsPush w m ⟨P, T, R, t, v, 2, hd, tl, fl⟩) (hB : B ≤ m) (hq : layout_Plan_Slot.f P T R t tl = some q) (hl : s.log.length ≤ 1000000) :
    Calls Try.prog 51 #[.pointer (some ⟨m, 0, none⟩), .pointer (some ⟨p, 0, none⟩)] w fun e w' => e = .returned (.bool false) ∧ IsPush w' m ⟨P, T, R, t, v, 3, hd, tl, fl⟩ ∧ SysD am cc t2 qs B w' a c (s.acc true who 2 q 0 v).1 (ps.set i (p, who, false)) ∧ Below B w w' ∧ Fr (fun k => k = m ∨ TouchD c cc w k) w w' := by
  have h' : w.heap[m]? = some (.cells #[.int .i64 P, .int .i64 T, .int .i64 R, .int .i64 t, .int .u64 v, .int .i64 2, .int .u64 hd, .int .u64 tl, .bool fl] 131 (0, 0)) := h
  have HO := Lib.hid (hs.open_ i hi)
  have HS := Lib.hid hs
  have HQ := Lib.hid hq
  have HI := Lib.hid hi
  have HL := Lib.hid hl
  obtain ⟨c5, -⟩ := Hp.blk_cell h' 5 rfl
  have HP := Lib.hid h'
  have HB := Lib.hid (Below.refl B w)
  have HF := Lib.hid (Fr.refl (fun k => k = m ∨ TouchD c cc w k) w)
  have HBm := Lib.hid hB
  clear hs hi h h' hq hl hB
  go_enter Try.func51, Try.ntmps51
  go_upto_region 14 with (first | (go_at_call 47; (refine HO.out.mono ?_; clear HO; rintro e w2 ⟨rfl, rfl⟩)))
  clear c5
  replace HS := Lib.hid (HS.out.still ((Fr.refl _ _).drew))
  replace HB := Lib.hid HB.out.drew
  replace HF := Lib.hid HF.out.drew
  have HP1 : Hid (w2.drew.heap[m]? = some (.cells #[.int .i64 P, .int .i64 T, .int .i64 R, .int .i64 t, .int .u64 v, .int .i64 2, .int .u64 hd, .int .u64 tl, .bool fl] 131 (0, 0))) := Lib.hid HP.out
  clear HP
  refine Rg.Upto.start (fun w' => w'.heap[m]? = some (.cells #[.int .i64 P, .int .i64 T, .int .i64 R, .int .i64 t, .int .u64 v, .int .i64 2, .int .u64 hd, .int .u64 tl, .bool fl] 131 (0, 0))) 1000 (by kernel_rfl) HP1.out (fun HS0 => ?_)
  have HSC := HS0
  clear HS0
  refine Rg.Upto.takeA (i := 0) (v := ?_) rfl (by kernel_rfl) (by kernel_rfl) (by kernel_rfl) (of_decide_eq_true (by kernel_rfl)) (fun _ _ _ h => h) (by rfl) (fun w5 hS5 => ?_) HSC ?_
  rotate_left
  · clear hS5
    go_simp
    try rfl
  try simp only [Act.put, List.setIfInBounds_toArray, List.set_cons_zero, List.set_cons_succ]
  refine Rg.Upto.takeA (i := 1) (v := ?_) rfl (by kernel_rfl) (by kernel_rfl) (by kernel_rfl) (of_decide_eq_true (by kernel_rfl)) (fun _ _ _ h => h) (by rfl) (fun w5 hS5 => ?_) HSC ?_
  rotate_left
  · clear hS5
    go_simp
    try rfl
  try simp only [Act.put, List.setIfInBounds_toArray, List.set_cons_zero, List.set_cons_succ]
  refine Rg.Upto.takeA (i := 2) (v := ?_) rfl (by kernel_rfl) (by kernel_rfl) (by kernel_rfl) (of_decide_eq_true (by kernel_rfl)) (fun _ _ _ h => h) (by rfl) (fun w5 hS5 => ?_) HSC ?_
  rotate_left
  · clear hS5
    go_simp
    try rfl
  try simp only [Act.put, List.setIfInBounds_toArray, List.set_cons_zero, List.set_cons_succ]
  refine Rg.Upto.takeA (i := 3) (v := ?_) rfl (by kernel_rfl) (by kernel_rfl) (by kernel_rfl) (of_decide_eq_true (by kernel_rfl)) (fun _ _ _ h => h) (by rfl) (fun w5 hS5 => ?_) HSC ?_
  rotate_left
  · clear hS5
    go_simp
    try rfl
  try simp only [Act.put, List.setIfInBounds_toArray, List.set_cons_zero, List.set_cons_succ]
  refine Rg.Upto.takeA (i := 4) (v := ?_) rfl (by kernel_rfl) (by kernel_rfl) (by kernel_rfl) (of_decide_eq_true (by kernel_rfl)) (fun _ _ _ h => h) (by rfl) (fun w5 hS5 => ?_) HSC ?_
  rotate_left
  · have c0 := (Hp.blk_cell hS5 0 rfl).1
    have c1 := (Hp.blk_cell hS5 1 rfl).1
    have c2 := (Hp.blk_cell hS5 2 rfl).1
    clear hS5
    go_simp
    try rfl
  try simp only [Act.put, List.setIfInBounds_toArray, List.set_cons_zero, List.set_cons_succ]
  refine Rg.Upto.takeA (i := 5) (v := ?_) rfl (by kernel_rfl) (by kernel_rfl) (by kernel_rfl) (of_decide_eq_true (by kernel_rfl)) (fun _ _ _ h => h) (by rfl) (fun w5 hS5 => ?_) HSC ?_
  rotate_left
  · clear hS5
    go_simp
    try rfl
  try simp only [Act.put, List.setIfInBounds_toArray, List.set_cons_zero, List.set_cons_succ]
  refine Rg.Upto.takeA (i := 6) (v := ?_) rfl (by kernel_rfl) (by kernel_rfl) (by kernel_rfl) (of_decide_eq_true (by kernel_rfl)) (fun _ _ _ h => h) (by rfl) (fun w5 hS5 => ?_) HSC ?_
  rotate_left
  · clear hS5
    go_simp
    try rfl
  try simp only [Act.put, List.setIfInBounds_toArray, List.set_cons_zero, List.set_cons_succ]
  refine Rg.Upto.takeA (i := 7) (v := ?_) rfl (by kernel_rfl) (by kernel_rfl) (by kernel_rfl) (of_decide_eq_true (by kernel_rfl)) (fun _ _ _ h => h) (by rfl) (fun w5 hS5 => ?_) HSC ?_
  rotate_left
  · clear hS5
    go_simp
    try rfl
  try simp only [Act.put, List.setIfInBounds_toArray, List.set_cons_zero, List.set_cons_succ]
  refine Rg.Upto.takeA (i := 8) (v := ?_) rfl (by kernel_rfl) (by kernel_rfl) (by kernel_rfl) (of_decide_eq_true (by kernel_rfl)) (fun _ _ _ h => h) (by rfl) (fun w5 hS5 => ?_) HSC ?_
  rotate_left
  · have c3 := (Hp.blk_cell hS5 3 rfl).1
    clear hS5
    go_simp
    try rfl
  try simp only [Act.put, List.setIfInBounds_toArray, List.set_cons_zero, List.set_cons_succ]
  refine Rg.Upto.takeA (i := 9) (v := ?_) rfl (by kernel_rfl) (by kernel_rfl) (by kernel_rfl) (of_decide_eq_true (by kernel_rfl)) (fun _ _ _ h => h) (by rfl) (fun w5 hS5 => ?_) HSC ?_
  rotate_left
  · clear hS5
    go_simp
    try rfl
  try simp only [Act.put, List.setIfInBounds_toArray, List.set_cons_zero, List.set_cons_succ]
  refine Rg.Upto.takeA (i := 10) (v := ?_) rfl (by kernel_rfl) (by kernel_rfl) (by kernel_rfl) (of_decide_eq_true (by kernel_rfl)) (fun _ _ _ h => h) (by rfl) (fun w5 hS5 => ?_) HSC ?_
  rotate_left
  · clear hS5
    go_simp
    try rfl
  try simp only [Act.put, List.setIfInBounds_toArray, List.set_cons_zero, List.set_cons_succ]
  refine Rg.Upto.takeA (i := 11) (v := ?_) rfl (by kernel_rfl) (by kernel_rfl) (by kernel_rfl) (of_decide_eq_true (by kernel_rfl)) (fun _ _ _ h => h) (by rfl) (fun w5 hS5 => ?_) HSC ?_
  rotate_left
  · clear hS5
    go_simp
    try rfl
  try simp only [Act.put, List.setIfInBounds_toArray, List.set_cons_zero, List.set_cons_succ]
  refine Rg.Upto.takeA (i := 12) (v := ?_) rfl (by kernel_rfl) (by kernel_rfl) (by kernel_rfl) (of_decide_eq_true (by kernel_rfl)) (fun _ _ _ h => h) (by rfl) (fun w5 hS5 => ?_) HSC ?_
  rotate_left
  · have c7 := (Hp.blk_cell hS5 7 rfl).1
    clear hS5
    go_simp
    try rfl
  try simp only [Act.put, List.setIfInBounds_toArray, List.set_cons_zero, List.set_cons_succ]
  refine Rg.Upto.takeA (i := 14) (v := ?_) rfl (by kernel_rfl) (by kernel_rfl) (by kernel_rfl) (of_decide_eq_true (by kernel_rfl)) (fun _ _ _ h => h) (by rfl) (fun w5 hS5 => ?_) HSC ?_
  rotate_left
  · clear hS5
    go_simp
    try rfl
  try simp only [Act.put, List.setIfInBounds_toArray, List.set_cons_zero, List.set_cons_succ]
  refine Rg.Upto.takeA (i := 15) (v := ?_) rfl (by kernel_rfl) (by kernel_rfl) (by kernel_rfl) (of_decide_eq_true (by kernel_rfl)) (fun _ _ _ h => h) (by rfl) (fun w5 hS5 => ?_) HSC ?_
  rotate_left
  · clear hS5
    go_simp
    try rfl
  try simp only [Act.put, List.setIfInBounds_toArray, List.set_cons_zero, List.set_cons_succ]
  refine Rg.Upto.takeA (i := 16) (v := ?_) rfl (by kernel_rfl) (by kernel_rfl) (by kernel_rfl) (of_decide_eq_true (by kernel_rfl)) (fun _ _ _ h => h) (by rfl) (fun w5 hS5 => ?_) HSC ?_
  rotate_left
  · clear hS5
    go_simp
    try rfl
  try simp only [Act.put, List.setIfInBounds_toArray, List.set_cons_zero, List.set_cons_succ]
  refine Rg.Upto.takeA (i := 17) (v := ?_) rfl (by kernel_rfl) (by kernel_rfl) (by kernel_rfl) (of_decide_eq_true (by kernel_rfl)) (fun _ _ _ h => h) (by rfl) (fun w5 hS5 => ?_) HSC ?_
  rotate_left
  · have c4 := (Hp.blk_cell hS5 4 rfl).1
    clear hS5
    go_simp
    try rfl
  try simp only [Act.put, List.setIfInBounds_toArray, List.set_cons_zero, List.set_cons_succ]
  refine Rg.Upto.one (i := 13) rfl (by kernel_rfl) (by rfl) (fun KK hK => ?_)
  go_simp
  refine (layout_Plan_Slot.calls P T R t tl q _ HQ.out).mono ?_
  rintro e w3 ⟨rfl, hb⟩
  have HP := Lib.hid (blk_below HP1.out hb)
  clear HP1 HSC
  replace HB := Lib.hid (HB.out.trans (hb.mono HS.out.base.1))
  replace HS := Lib.hid (HS.out.below hb)
  replace HF := Lib.hid (HF.out.below hb)
  refine hK.out _ _ HP.out ?_
  clear hK KK hb
  try simp only [Act.put, List.setIfInBounds_toArray, List.set_cons_zero, List.set_cons_succ]
  refine Rg.Upto.one (i := 18) rfl (by kernel_rfl) (by rfl) (fun KK hK => ?_)
  go_simp
  have hm := HS.out.store i q v HI.out HL.out
  refine hm.mono ?_
  clear hm
  rintro e w4 ⟨rfl, hD⟩
  have HP1 := Lib.hid (hD.fr.blk HP.out ((duo_nt HS.out HP.out (by decide))))
  have hF2 := HF.out.then hD.fr (touch_backD HF.out)
  replace HB := Lib.hid (HB.out.trans hD.bel)
  clear HF HS HP
  have HF := Lib.hid hF2
  have HS := Lib.hid hD.duo
  refine hK.out _ _ HP1.out ?_
  clear hK KK hD hF2
  try simp only [Act.put, List.setIfInBounds_toArray, List.set_cons_zero, List.set_cons_succ]
  refine Rg.Upto.done (by kernel_rfl) ?_
  obtain ⟨c5, d5⟩ := Hp.blk_cell HP1.out 5 rfl
  go_wp2_with (fail)
  go_ret
  have hnt := (duo_nt HS.out HP1.out (by decide))
  exact ⟨rfl, Hp.blk_set HP1.out 5 _, HS.out.fr ((Fr.refl (fun k => k = m) w4).setCell ⟨m, 5, none⟩ (.int .i64 3) (.inl rfl)) (fun k _ e => by subst e; exact hnt), HB.out.setCell (p := ⟨m, 5, none⟩) HBm.out _, HF.out.setCell ⟨m, 5, none⟩ _ (.inl (.inl rfl))⟩

set_option maxHeartbeats 2000000 in
set_option maxRecDepth 100000 in
theorem push_step3 {B am cc : Nat} {t2 : AS} {qs : List (Nat × Int × Bool)} {w : World} {a c p : Nat} {s : AS} {who : Int} {ps : List (Nat × Int × Bool)} {P T R t v hd tl : Int} {fl : Bool} {q : Int} (hs : SysD am cc t2 qs B w a c s ps) (i : Nat) (hi : ps[i]? = some (p, who, true)) (m : Nat) (h : IsPush w m ⟨P, T, R, t, v, 3, hd, tl, fl⟩) (hB : B ≤ m) (hq : layout_Plan_Tail.f P T R t = some q) (hl : s.log.length ≤ 1000000) :
    Calls Try.prog 51 #[.pointer (some ⟨m, 0, none⟩), .pointer (some ⟨p, 0, none⟩)] w fun e w' => e = .returned (.bool true) ∧ IsPush w' m ⟨P, T, R, t, v, 4, hd, tl, fl⟩ ∧ SysD am cc t2 qs B w' a c (s.acc true who 2 q 0 (IntKind.u64.wrap (tl + 1))).1 (ps.set i (p, who, false)) ∧ Below B w w' ∧ Fr (fun k => k = m ∨ TouchD c cc w k) w w' := by
  have h' : w.heap[m]? = some (.cells #[.int .i64 P, .int .i64 T, .int .i64 R, .int .i64 t, .int .u64 v, .int .i64 3, .int .u64 hd, .int .u64 tl, .bool fl] 131 (0, 0)) := h
  have HO := Lib.hid (hs.open_ i hi)
  have HS := Lib.hid hs
  have HQ := Lib.hid hq
  have HI := Lib.hid hi
  have HL := Lib.hid hl
  obtain ⟨c5, -⟩ := Hp.blk_cell h' 5 rfl
  have HP := Lib.hid h'
  have HB := Lib.hid (Below.refl B w)
  have HF := Lib.hid (Fr.refl (fun k => k = m ∨ TouchD c cc w k) w)
  have HBm := Lib.hid hB
  clear hs hi h h' hq hl hB
  go_enter Try.func51, Try.ntmps51
  go_upto_region 16 with (first | (go_at_call 47; (refine HO.out.mono ?_; clear HO; rintro e w2 ⟨rfl, rfl⟩)))
  clear c5
  replace HS := Lib.hid (HS.out.still ((Fr.refl _ _).drew))
  replace HB := Lib.hid HB.out.drew
  replace HF := Lib.hid HF.out.drew
  have HP1 : Hid (w2.drew.heap[m]? = some (.cells #[.int .i64 P, .int .i64 T, .int .i64 R, .int .i64 t, .int .u64 v, .int .i64 3, .int .u64 hd, .int .u64 tl, .bool fl] 131 (0, 0))) := Lib.hid HP.out
  clear HP
  refine Rg.Upto.start (fun w' => w'.heap[m]? = some (.cells #[.int .i64 P, .int .i64 T, .int .i64 R, .int .i64 t, .int .u64 v, .int .i64 3, .int .u64 hd, .int .u64 tl, .bool fl] 131 (0, 0))) 1000 (by kernel_rfl) HP1.out (fun HS0 => ?_)
  have HSC := HS0
  clear HS0
  refine Rg.Upto.takeA (i := 0) (v := ?_) rfl (by kernel_rfl) (by kernel_rfl) (by kernel_rfl) (of_decide_eq_true (by kernel_rfl)) (fun _ _ _ h => h) (by rfl) (fun w5 hS5 => ?_) HSC ?_
  rotate_left
  · clear hS5
    go_simp
    try rfl
  try simp only [Act.put, List.setIfInBounds_toArray, List.set_cons_zero, List.set_cons_succ]
  refine Rg.Upto.takeA (i := 1) (v := ?_) rfl (by kernel_rfl) (by kernel_rfl) (by kernel_rfl) (of_decide_eq_true (by kernel_rfl)) (fun _ _ _ h => h) (by rfl) (fun w5 hS5 => ?_) HSC ?_
  rotate_left
  · clear hS5
    go_simp
    try rfl
  try simp only [Act.put, List.setIfInBounds_toArray, List.set_cons_zero, List.set_cons_succ]
  refine Rg.Upto.takeA (i := 2) (v := ?_) rfl (by kernel_rfl) (by kernel_rfl) (by kernel_rfl) (of_decide_eq_true (by kernel_rfl)) (fun _ _ _ h => h) (by rfl) (fun w5 hS5 => ?_) HSC ?_
  rotate_left
  · clear hS5
    go_simp
    try rfl
  try simp only [Act.put, List.setIfInBounds_toArray, List.set_cons_zero, List.set_cons_succ]
  refine Rg.Upto.takeA (i := 3) (v := ?_) rfl (by kernel_rfl) (by kernel_rfl) (by kernel_rfl) (of_decide_eq_true (by kernel_rfl)) (fun _ _ _ h => h) (by rfl) (fun w5 hS5 => ?_) HSC ?_
  rotate_left
  · clear hS5
    go_simp
    try rfl
  try simp only [Act.put, List.setIfInBounds_toArray, List.set_cons_zero, List.set_cons_succ]
  refine Rg.Upto.takeA (i := 4) (v := ?_) rfl (by kernel_rfl) (by kernel_rfl) (by kernel_rfl) (of_decide_eq_true (by kernel_rfl)) (fun _ _ _ h => h) (by rfl) (fun w5 hS5 => ?_) HSC ?_
  rotate_left
  · have c0 := (Hp.blk_cell hS5 0 rfl).1
    have c1 := (Hp.blk_cell hS5 1 rfl).1
    have c2 := (Hp.blk_cell hS5 2 rfl).1
    clear hS5
    go_simp
    try rfl
  try simp only [Act.put, List.setIfInBounds_toArray, List.set_cons_zero, List.set_cons_succ]
  refine Rg.Upto.takeA (i := 5) (v := ?_) rfl (by kernel_rfl) (by kernel_rfl) (by kernel_rfl) (of_decide_eq_true (by kernel_rfl)) (fun _ _ _ h => h) (by rfl) (fun w5 hS5 => ?_) HSC ?_
  rotate_left
  · clear hS5
    go_simp
    try rfl
  try simp only [Act.put, List.setIfInBounds_toArray, List.set_cons_zero, List.set_cons_succ]
  refine Rg.Upto.takeA (i := 6) (v := ?_) rfl (by kernel_rfl) (by kernel_rfl) (by kernel_rfl) (of_decide_eq_true (by kernel_rfl)) (fun _ _ _ h => h) (by rfl) (fun w5 hS5 => ?_) HSC ?_
  rotate_left
  · clear hS5
    go_simp
    try rfl
  try simp only [Act.put, List.setIfInBounds_toArray, List.set_cons_zero, List.set_cons_succ]
  refine Rg.Upto.takeA (i := 7) (v := ?_) rfl (by kernel_rfl) (by kernel_rfl) (by kernel_rfl) (of_decide_eq_true (by kernel_rfl)) (fun _ _ _ h => h) (by rfl) (fun w5 hS5 => ?_) HSC ?_
  rotate_left
  · clear hS5
    go_simp
    try rfl
  try simp only [Act.put, List.setIfInBounds_toArray, List.set_cons_zero, List.set_cons_succ]
  refine Rg.Upto.takeA (i := 8) (v := ?_) rfl (by kernel_rfl) (by kernel_rfl) (by kernel_rfl) (of_decide_eq_true (by kernel_rfl)) (fun _ _ _ h => h) (by rfl) (fun w5 hS5 => ?_) HSC ?_
  rotate_left
  · have c3 := (Hp.blk_cell hS5 3 rfl).1
    clear hS5
    go_simp
    try rfl
  try simp only [Act.put, List.setIfInBounds_toArray, List.set_cons_zero, List.set_cons_succ]
  refine Rg.Upto.takeA (i := 10) (v := ?_) rfl (by kernel_rfl) (by kernel_rfl) (by kernel_rfl) (of_decide_eq_true (by kernel_rfl)) (fun _ _ _ h => h) (by rfl) (fun w5 hS5 => ?_) HSC ?_
  rotate_left
  · clear hS5
    go_simp
    try rfl
  try simp only [Act.put, List.setIfInBounds_toArray, List.set_cons_zero, List.set_cons_succ]
  refine Rg.Upto.takeA (i := 11) (v := ?_) rfl (by kernel_rfl) (by kernel_rfl) (by kernel_rfl) (of_decide_eq_true (by kernel_rfl)) (fun _ _ _ h => h) (by rfl) (fun w5 hS5 => ?_) HSC ?_
  rotate_left
  · clear hS5
    go_simp
    try rfl
  try simp only [Act.put, List.setIfInBounds_toArray, List.set_cons_zero, List.set_cons_succ]
  refine Rg.Upto.takeA (i := 12) (v := ?_) rfl (by kernel_rfl) (by kernel_rfl) (by kernel_rfl) (of_decide_eq_true (by kernel_rfl)) (fun _ _ _ h => h) (by rfl) (fun w5 hS5 => ?_) HSC ?_
  rotate_left
  · clear hS5
    go_simp
    try rfl
  try simp only [Act.put, List.setIfInBounds_toArray, List.set_cons_zero, List.set_cons_succ]
  refine Rg.Upto.takeA (i := 13) (v := ?_) rfl (by kernel_rfl) (by kernel_rfl) (by kernel_rfl) (of_decide_eq_true (by kernel_rfl)) (fun _ _ _ h => h) (by rfl) (fun w5 hS5 => ?_) HSC ?_
  rotate_left
  · have c7 := (Hp.blk_cell hS5 7 rfl).1
    clear hS5
    go_simp
    try rfl
  try simp only [Act.put, List.setIfInBounds_toArray, List.set_cons_zero, List.set_cons_succ]
  refine Rg.Upto.takeA (i := 14) (v := ?_) rfl (by kernel_rfl) (by kernel_rfl) (by kernel_rfl) (of_decide_eq_true (by kernel_rfl)) (fun _ _ _ h => h) (by rfl) (fun w5 hS5 => ?_) HSC ?_
  rotate_left
  · clear hS5
    go_simp
    try rfl
  try simp only [Act.put, List.setIfInBounds_toArray, List.set_cons_zero, List.set_cons_succ]
  refine Rg.Upto.one (i := 9) rfl (by kernel_rfl) (by rfl) (fun KK hK => ?_)
  go_simp
  refine (layout_Plan_Tail.calls P T R t q _ HQ.out).mono ?_
  rintro e w3 ⟨rfl, hb⟩
  have HP := Lib.hid (blk_below HP1.out hb)
  clear HP1 HSC
  replace HB := Lib.hid (HB.out.trans (hb.mono HS.out.base.1))
  replace HS := Lib.hid (HS.out.below hb)
  replace HF := Lib.hid (HF.out.below hb)
  refine hK.out _ _ HP.out ?_
  clear hK KK hb
  try simp only [Act.put, List.setIfInBounds_toArray, List.set_cons_zero, List.set_cons_succ]
  refine Rg.Upto.one (i := 15) rfl (by kernel_rfl) (by rfl) (fun KK hK => ?_)
  go_simp
  have hm := HS.out.store i q (IntKind.u64.wrap (tl + 1)) HI.out HL.out
  refine hm.mono ?_
  clear hm
  rintro e w4 ⟨rfl, hD⟩
  have HP1 := Lib.hid (hD.fr.blk HP.out ((duo_nt HS.out HP.out (by decide))))
  have hF2 := HF.out.then hD.fr (touch_backD HF.out)
  replace HB := Lib.hid (HB.out.trans hD.bel)
  clear HF HS HP
  have HF := Lib.hid hF2
  have HS := Lib.hid hD.duo
  refine hK.out _ _ HP1.out ?_
  clear hK KK hD hF2
  try simp only [Act.put, List.setIfInBounds_toArray, List.set_cons_zero, List.set_cons_succ]
  refine Rg.Upto.done (by kernel_rfl) ?_
  obtain ⟨c5, d5⟩ := Hp.blk_cell HP1.out 5 rfl
  go_wp2_with (fail)
  go_ret
  have hnt := (duo_nt HS.out HP1.out (by decide))
  exact ⟨rfl, Hp.blk_set HP1.out 5 _, HS.out.fr ((Fr.refl (fun k => k = m) w4).setCell ⟨m, 5, none⟩ (.int .i64 4) (.inl rfl)) (fun k _ e => by subst e; exact hnt), HB.out.setCell (p := ⟨m, 5, none⟩) HBm.out _, HF.out.setCell ⟨m, 5, none⟩ _ (.inl (.inl rfl))⟩

set_option maxRecDepth 100000 in
theorem mark_step_shut {B am cc : Nat} {t2 : AS} {qs : List (Nat × Int × Bool)} {w : World} {a c p : Nat} {s : AS} {who : Int} {ps : List (Nat × Int × Bool)} (hs : SysD am cc t2 qs B w a c s ps) (i : Nat) (hi : ps[i]? = some (p, who, false)) (m : Nat) (x : MS) (h : IsMark w m x) (h4 : x.done = false) :
    Calls Try.prog 14 #[.pointer (some ⟨m, 0, none⟩), .pointer (some ⟨p, 0, none⟩)] w fun e w' => e = .returned (.bool false) ∧ w' = w := by
  obtain ⟨c4, -⟩ := Hp.blk_cell h 4 (v := .bool x.done) rfl
  rw [h4] at c4
  have hm := hs.open_ i hi
  clear h h4
  go_enter Try.func14, Try.ntmps14
  go_wp2_with (first | (go_at_call 47; (refine hm.mono ?_; clear hm; rintro e w2 ⟨rfl, rfl⟩)))
  go_ret
  exact ⟨rfl, rfl⟩

set_option maxHeartbeats 2000000 in
set_option maxRecDepth 100000 in
theorem mark_step_go {B am cc : Nat} {t2 : AS} {qs : List (Nat × Int × Bool)} {w : World} {a c p : Nat} {s : AS} {who : Int} {ps : List (Nat × Int × Bool)} {P T R ref pg b q : Int} {fr : Bool} (hs : SysD am cc t2 qs B w a c s ps) (i : Nat) (hi : ps[i]? = some (p, who, true)) (m : Nat) (h : IsMark w m ⟨P, T, R, ref, false, fr⟩) (hB : B ≤ m) (hp : layout_Plan_Place.f P T R (IntKind.i64.wrap ref) = some (pg, b)) (hb0 : 0 ≤ b) (hq : layout_Plan_Mark.f P T R pg = some q) (hl : s.log.length ≤ 1000000) :
    Calls Try.prog 14 #[.pointer (some ⟨m, 0, none⟩), .pointer (some ⟨p, 0, none⟩)] w fun e w' => e = .returned (.bool true) ∧ IsMark w' m ⟨P, T, R, ref, true, bitIn (s.acc true who 5 q 0 (bitOf b)).2 b⟩ ∧ SysD am cc t2 qs B w' a c (s.acc true who 5 q 0 (bitOf b)).1 (ps.set i (p, who, false)) ∧ Below B w w' ∧ Fr (fun k => k = m ∨ TouchD c cc w k) w w' := by
  have h' : w.heap[m]? = some (.cells #[.int .i64 P, .int .i64 T, .int .i64 R, .int .u64 ref, .bool false, .bool fr] 95 (0, 0)) := h
  have HO := Lib.hid (hs.open_ i hi)
  have HS := Lib.hid hs
  have HPl := Lib.hid hp
  have HQ := Lib.hid hq
  have HI := Lib.hid hi
  have HL := Lib.hid hl
  have Hb0 := Lib.hid hb0
  obtain ⟨c4, -⟩ := Hp.blk_cell h' 4 rfl
  have HP := Lib.hid h'
  have HB := Lib.hid (Below.refl B w)
  have HF := Lib.hid (Fr.refl (fun k => k = m ∨ TouchD c cc w k) w)
  have HBm := Lib.hid hB
  clear hs hi h h' hq hp hl hB hb0
  go_enter Try.func14, Try.ntmps14
  go_upto_region 5 with (first | (go_at_call 47; (refine HO.out.mono ?_; clear HO; rintro e w2 ⟨rfl, rfl⟩)))
  clear c4
  replace HS := Lib.hid (HS.out.still ((Fr.refl _ _).drew))
  replace HB := Lib.hid HB.out.drew
  replace HF := Lib.hid HF.out.drew
  have HP1 : Hid (w2.drew.heap[m]? = some (.cells #[.int .i64 P, .int .i64 T, .int .i64 R, .int .u64 ref, .bool false, .bool fr] 95 (0, 0))) := Lib.hid HP.out
  clear HP
  refine Rg.Upto.start (fun w' => w'.heap[m]? = some (.cells #[.int .i64 P, .int .i64 T, .int .i64 R, .int .u64 ref, .bool false, .bool fr] 95 (0, 0))) 1000 (by kernel_rfl) HP1.out (fun HS0 => ?_)
  have HSC := HS0
  clear HS0
  refine Rg.Upto.takeA (i := 0) (v := ?_) rfl (by kernel_rfl) (by kernel_rfl) (by kernel_rfl) (of_decide_eq_true (by kernel_rfl)) (fun _ _ _ h => h) (by rfl) (fun w5 hS5 => ?_) HSC ?_
  rotate_left
  · clear hS5
    go_simp
    try rfl
  try simp only [Act.put, List.setIfInBounds_toArray, List.set_cons_zero, List.set_cons_succ]
  refine Rg.Upto.takeA (i := 1) (v := ?_) rfl (by kernel_rfl) (by kernel_rfl) (by kernel_rfl) (of_decide_eq_true (by kernel_rfl)) (fun _ _ _ h => h) (by rfl) (fun w5 hS5 => ?_) HSC ?_
  rotate_left
  · clear hS5
    go_simp
    try rfl
  try simp only [Act.put, List.setIfInBounds_toArray, List.set_cons_zero, List.set_cons_succ]
  refine Rg.Upto.takeA (i := 2) (v := ?_) rfl (by kernel_rfl) (by kernel_rfl) (by kernel_rfl) (of_decide_eq_true (by kernel_rfl)) (fun _ _ _ h => h) (by rfl) (fun w5 hS5 => ?_) HSC ?_
  rotate_left
  · clear hS5
    go_simp
    try rfl
  try simp only [Act.put, List.setIfInBounds_toArray, List.set_cons_zero, List.set_cons_succ]
  refine Rg.Upto.takeA (i := 3) (v := ?_) rfl (by kernel_rfl) (by kernel_rfl) (by kernel_rfl) (of_decide_eq_true (by kernel_rfl)) (fun _ _ _ h => h) (by rfl) (fun w5 hS5 => ?_) HSC ?_
  rotate_left
  · have c0 := (Hp.blk_cell hS5 0 rfl).1
    have c1 := (Hp.blk_cell hS5 1 rfl).1
    have c2 := (Hp.blk_cell hS5 2 rfl).1
    clear hS5
    go_simp
    try rfl
  try simp only [Act.put, List.setIfInBounds_toArray, List.set_cons_zero, List.set_cons_succ]
  refine Rg.Upto.takeA (i := 4) (v := ?_) rfl (by kernel_rfl) (by kernel_rfl) (by kernel_rfl) (of_decide_eq_true (by kernel_rfl)) (fun _ _ _ h => h) (by rfl) (fun w5 hS5 => ?_) HSC ?_
  rotate_left
  · clear hS5
    go_simp
    try rfl
  try simp only [Act.put, List.setIfInBounds_toArray, List.set_cons_zero, List.set_cons_succ]
  refine Rg.Upto.takeA (i := 5) (v := ?_) rfl (by kernel_rfl) (by kernel_rfl) (by kernel_rfl) (of_decide_eq_true (by kernel_rfl)) (fun _ _ _ h => h) (by rfl) (fun w5 hS5 => ?_) HSC ?_
  rotate_left
  · clear hS5
    go_simp
    try rfl
  try simp only [Act.put, List.setIfInBounds_toArray, List.set_cons_zero, List.set_cons_succ]
  refine Rg.Upto.takeA (i := 6) (v := ?_) rfl (by kernel_rfl) (by kernel_rfl) (by kernel_rfl) (of_decide_eq_true (by kernel_rfl)) (fun _ _ _ h => h) (by rfl) (fun w5 hS5 => ?_) HSC ?_
  rotate_left
  · clear hS5
    go_simp
    try rfl
  try simp only [Act.put, List.setIfInBounds_toArray, List.set_cons_zero, List.set_cons_succ]
  refine Rg.Upto.takeA (i := 7) (v := ?_) rfl (by kernel_rfl) (by kernel_rfl) (by kernel_rfl) (of_decide_eq_true (by kernel_rfl)) (fun _ _ _ h => h) (by rfl) (fun w5 hS5 => ?_) HSC ?_
  rotate_left
  · have c3 := (Hp.blk_cell hS5 3 rfl).1
    clear hS5
    go_simp
    try rfl
  try simp only [Act.put, List.setIfInBounds_toArray, List.set_cons_zero, List.set_cons_succ]
  refine Rg.Upto.takeA (i := 8) (v := ?_) rfl (by kernel_rfl) (by kernel_rfl) (by kernel_rfl) (of_decide_eq_true (by kernel_rfl)) (fun _ _ _ h => h) (by rfl) (fun w5 hS5 => ?_) HSC ?_
  rotate_left
  · clear hS5
    go_simp
    try rfl
  try simp only [Act.put, List.setIfInBounds_toArray, List.set_cons_zero, List.set_cons_succ]
  refine Rg.Upto.one (i := 9) rfl (by kernel_rfl) (by rfl) (fun KK hK => ?_)
  go_simp
  refine (layout_Plan_Place.calls P T R (IntKind.i64.wrap ref) pg b _ HPl.out).mono ?_
  rintro e w3 ⟨rfl, hb⟩
  have HP := Lib.hid (blk_below HP1.out hb)
  clear HP1 HSC
  replace HB := Lib.hid (HB.out.trans (hb.mono HS.out.base.1))
  replace HS := Lib.hid (HS.out.below hb)
  replace HF := Lib.hid (HF.out.below hb)
  refine hK.out _ _ HP.out ?_
  clear hK KK hb
  try simp only [Act.put, List.setIfInBounds_toArray, List.set_cons_zero, List.set_cons_succ]
  have HSC := HP.out
  refine Rg.Upto.takeA (i := 10) (v := ?_) rfl (by kernel_rfl) (by kernel_rfl) (by kernel_rfl) (of_decide_eq_true (by kernel_rfl)) (fun _ _ _ h => h) (by rfl) (fun w5 hS5 => ?_) HSC ?_
  rotate_left
  · clear hS5
    go_simp
    try rfl
  try simp only [Act.put, List.setIfInBounds_toArray, List.set_cons_zero, List.set_cons_succ]
  refine Rg.Upto.takeA (i := 11) (v := ?_) rfl (by kernel_rfl) (by kernel_rfl) (by kernel_rfl) (of_decide_eq_true (by kernel_rfl)) (fun _ _ _ h => h) (by rfl) (fun w5 hS5 => ?_) HSC ?_
  rotate_left
  · clear hS5
    go_simp
    try rfl
  try simp only [Act.put, List.setIfInBounds_toArray, List.set_cons_zero, List.set_cons_succ]
  refine Rg.Upto.takeA (i := 12) (v := ?_) rfl (by kernel_rfl) (by kernel_rfl) (by kernel_rfl) (of_decide_eq_true (by kernel_rfl)) (fun _ _ _ h => h) (by rfl) (fun w5 hS5 => ?_) HSC ?_
  rotate_left
  · clear hS5
    go_simp
    try rfl
  try simp only [Act.put, List.setIfInBounds_toArray, List.set_cons_zero, List.set_cons_succ]
  refine Rg.Upto.takeA (i := 13) (v := ?_) rfl (by kernel_rfl) (by kernel_rfl) (by kernel_rfl) (of_decide_eq_true (by kernel_rfl)) (fun _ _ _ h => h) (by rfl) (fun w5 hS5 => ?_) HSC ?_
  rotate_left
  · clear hS5
    go_simp
    try rfl
  try simp only [Act.put, List.setIfInBounds_toArray, List.set_cons_zero, List.set_cons_succ]
  refine Rg.Upto.takeA (i := 14) (v := ?_) rfl (by kernel_rfl) (by kernel_rfl) (by kernel_rfl) (of_decide_eq_true (by kernel_rfl)) (fun _ _ _ h => h) (by rfl) (fun w5 hS5 => ?_) HSC ?_
  rotate_left
  · clear hS5
    go_simp
    try rfl
  try simp only [Act.put, List.setIfInBounds_toArray, List.set_cons_zero, List.set_cons_succ]
  refine Rg.Upto.done (by kernel_rfl) ?_
  clear HSC
  go_upto_region 6 with (fail)
  replace HS := Lib.hid (HS.out.still ((Fr.refl _ _).drew))
  replace HB := Lib.hid HB.out.drew
  replace HF := Lib.hid HF.out.drew
  have HP1 : Hid (w3.drew.heap[m]? = some (.cells #[.int .i64 P, .int .i64 T, .int .i64 R, .int .u64 ref, .bool false, .bool fr] 95 (0, 0))) := Lib.hid HP.out
  clear HP
  refine Rg.Upto.start (fun w' => w'.heap[m]? = some (.cells #[.int .i64 P, .int .i64 T, .int .i64 R, .int .u64 ref, .bool false, .bool fr] 95 (0, 0))) 1000 (by kernel_rfl) HP1.out (fun HS0 => ?_)
  have HSC := HS0
  clear HS0
  refine Rg.Upto.takeA (i := 0) (v := ?_) rfl (by kernel_rfl) (by kernel_rfl) (by kernel_rfl) (of_decide_eq_true (by kernel_rfl)) (fun _ _ _ h => h) (by rfl) (fun w5 hS5 => ?_) HSC ?_
  rotate_left
  · clear hS5
    go_simp
    try rfl
  try simp only [Act.put, List.setIfInBounds_toArray, List.set_cons_zero, List.set_cons_succ]
  refine Rg.Upto.takeA (i := 1) (v := ?_) rfl (by kernel_rfl) (by kernel_rfl) (by kernel_rfl) (of_decide_eq_true (by kernel_rfl)) (fun _ _ _ h => h) (by rfl) (fun w5 hS5 => ?_) HSC ?_
  rotate_left
  · clear hS5
    go_simp
    try rfl
  try simp only [Act.put, List.setIfInBounds_toArray, List.set_cons_zero, List.set_cons_succ]
  refine Rg.Upto.takeA (i := 2) (v := ?_) rfl (by kernel_rfl) (by kernel_rfl) (by kernel_rfl) (of_decide_eq_true (by kernel_rfl)) (fun _ _ _ h => h) (by rfl) (fun w5 hS5 => ?_) HSC ?_
  rotate_left
  · clear hS5
    go_simp
    try rfl
  try simp only [Act.put, List.setIfInBounds_toArray, List.set_cons_zero, List.set_cons_succ]
  refine Rg.Upto.takeA (i := 3) (v := ?_) rfl (by kernel_rfl) (by kernel_rfl) (by kernel_rfl) (of_decide_eq_true (by kernel_rfl)) (fun _ _ _ h => h) (by rfl) (fun w5 hS5 => ?_) HSC ?_
  rotate_left
  · clear hS5
    go_simp
    try rfl
  try simp only [Act.put, List.setIfInBounds_toArray, List.set_cons_zero, List.set_cons_succ]
  refine Rg.Upto.takeA (i := 4) (v := ?_) rfl (by kernel_rfl) (by kernel_rfl) (by kernel_rfl) (of_decide_eq_true (by kernel_rfl)) (fun _ _ _ h => h) (by rfl) (fun w5 hS5 => ?_) HSC ?_
  rotate_left
  · have c0 := (Hp.blk_cell hS5 0 rfl).1
    have c1 := (Hp.blk_cell hS5 1 rfl).1
    have c2 := (Hp.blk_cell hS5 2 rfl).1
    clear hS5
    go_simp
    try rfl
  try simp only [Act.put, List.setIfInBounds_toArray, List.set_cons_zero, List.set_cons_succ]
  refine Rg.Upto.takeA (i := 5) (v := ?_) rfl (by kernel_rfl) (by kernel_rfl) (by kernel_rfl) (of_decide_eq_true (by kernel_rfl)) (fun _ _ _ h => h) (by rfl) (fun w5 hS5 => ?_) HSC ?_
  rotate_left
  · clear hS5
    go_simp
    try rfl
  try simp only [Act.put, List.setIfInBounds_toArray, List.set_cons_zero, List.set_cons_succ]
  refine Rg.Upto.takeA (i := 7) (v := ?_) rfl (by kernel_rfl) (by kernel_rfl) (by kernel_rfl) (of_decide_eq_true (by kernel_rfl)) (fun _ _ _ h => h) (by rfl) (fun w5 hS5 => ?_) HSC ?_
  rotate_left
  · clear hS5
    go_simp
    try rfl
  try simp only [Act.put, List.setIfInBounds_toArray, List.set_cons_zero, List.set_cons_succ]
  refine Rg.Upto.takeA (i := 8) (v := ?_) rfl (by kernel_rfl) (by kernel_rfl) (by kernel_rfl) (of_decide_eq_true (by kernel_rfl)) (fun _ _ _ h => h) (by rfl) (fun w5 hS5 => ?_) HSC ?_
  rotate_left
  · clear hS5
    have hb0 := Hb0.out
    go_simp
    try rfl
  try simp only [Act.put, List.setIfInBounds_toArray, List.set_cons_zero, List.set_cons_succ]
  refine Rg.Upto.one (i := 6) rfl (by kernel_rfl) (by rfl) (fun KK hK => ?_)
  go_simp
  refine (layout_Plan_Mark.calls P T R pg q _ HQ.out).mono ?_
  rintro e w4 ⟨rfl, hb⟩
  have HP := Lib.hid (blk_below HP1.out hb)
  clear HP1 HSC
  replace HB := Lib.hid (HB.out.trans (hb.mono HS.out.base.1))
  replace HS := Lib.hid (HS.out.below hb)
  replace HF := Lib.hid (HF.out.below hb)
  refine hK.out _ _ HP.out ?_
  clear hK KK hb
  try simp only [Act.put, List.setIfInBounds_toArray, List.set_cons_zero, List.set_cons_succ]
  obtain ⟨sn, hsn⟩ : ∃ sn, sn = (s.acc true who 5 q 0 (bitOf b)).2 := ⟨_, rfl⟩
  have HSN := Lib.hid hsn
  clear hsn
  refine Rg.Upto.one (i := 9) rfl (by kernel_rfl) (by rfl) (fun KK hK => ?_)
  go_simp
  have hm := HS.out.or_ i q (bitOf b) HI.out HL.out
  rw [← HSN.out] at hm
  refine hm.mono ?_
  clear hm
  rintro e w5 ⟨rfl, hD⟩
  have HP1 := Lib.hid (hD.fr.blk HP.out ((duo_nt HS.out HP.out (by decide))))
  have hF2 := HF.out.then hD.fr (touch_backD HF.out)
  replace HB := Lib.hid (HB.out.trans hD.bel)
  clear HF HS HP
  have HF := Lib.hid hF2
  have HS := Lib.hid hD.duo
  refine hK.out _ _ HP1.out ?_
  clear hK KK hD hF2
  have HSC := HP1.out
  try simp only [Act.put, List.setIfInBounds_toArray, List.set_cons_zero, List.set_cons_succ]
  refine Rg.Upto.takeA (i := 10) (v := ?_) rfl (by kernel_rfl) (by kernel_rfl) (by kernel_rfl) (of_decide_eq_true (by kernel_rfl)) (fun _ _ _ h => h) (by rfl) (fun w5 hS5 => ?_) HSC ?_
  rotate_left
  · clear hS5
    go_simp
    try rfl
  try simp only [Act.put, List.setIfInBounds_toArray, List.set_cons_zero, List.set_cons_succ]
  refine Rg.Upto.done (by kernel_rfl) ?_
  clear HSC
  have hb0 := Hb0.out
  obtain ⟨c5, d5⟩ := Hp.blk_cell HP1.out 5 rfl
  have HP2 := Lib.hid (Hp.blk_set HP1.out 5 (.bool (bitIn sn b)))
  obtain ⟨c4, d4⟩ := Hp.blk_cell HP2.out 4 rfl
  go_wp2_with (fail)
  go_ret
  have hnt := (duo_nt HS.out HP1.out (by decide))
  rw [← HSN.out]
  exact ⟨rfl, Hp.blk_set HP2.out 4 _, HS.out.fr (((Fr.refl (fun k => k = m) w5).setCell ⟨m, 5, none⟩ (.bool (bitIn sn b)) (.inl rfl)).setCell ⟨m, 4, none⟩ (.bool true) (.inl rfl)) (fun k _ e => by subst e; exact hnt), (HB.out.setCell (p := ⟨m, 5, none⟩) HBm.out _).setCell (p := ⟨m, 4, none⟩) HBm.out _, (HF.out.setCell ⟨m, 5, none⟩ _ (.inl (.inl rfl))).setCell ⟨m, 4, none⟩ _ (.inl (.inl rfl))⟩

set_option maxRecDepth 100000 in
theorem shade_step_shut {B am cc : Nat} {t2 : AS} {qs : List (Nat × Int × Bool)} {w : World} {a c p : Nat} {s : AS} {who : Int} {ps : List (Nat × Int × Bool)} (hs : SysD am cc t2 qs B w a c s ps) (i : Nat) (hi : ps[i]? = some (p, who, false)) (m mk : Nat) (pu : Option Addr) (at_ : Int) (lost : Bool) (h : ShB w m mk pu at_ lost) (h4 : at_ ≠ 3) :
    Calls Try.prog 17 #[.pointer (some ⟨m, 0, none⟩), .pointer (some ⟨p, 0, none⟩)] w fun e w' => e = .returned (.bool false) ∧ w' = w := by
  obtain ⟨c2, -⟩ := Hp.blk_cell h 2 rfl
  have h5 : (at_ == 3) = false := by simp [h4]
  have hm := hs.open_ i hi
  clear h h4
  go_enter Try.func17, Try.ntmps17
  go_wp2_with (first | (go_at_call 47; (refine hm.mono ?_; clear hm; rintro e w2 ⟨rfl, rfl⟩)))
  go_ret
  exact ⟨rfl, rfl⟩

set_option maxHeartbeats 2000000 in
set_option maxRecDepth 100000 in
theorem shade_mark_fresh {B am cc : Nat} {t2 : AS} {qs : List (Nat × Int × Bool)} {w : World} {a c p : Nat} {s s' : AS} {who : Int} {ps : List (Nat × Int × Bool)} (hs : SysD am cc t2 qs B w a c s ps) (i : Nat) (hi : ps[i]? = some (p, who, true)) (m mk pu : Nat) (hB : B ≤ m) (lost : Bool) (h : ShB w m mk (some ⟨pu, 0, none⟩) 0 lost) (x : MS) (hx : x.fresh = true) (hne : m ≠ mk)
    (hstep : Calls Try.prog 14 #[.pointer (some ⟨mk, 0, none⟩), .pointer (some ⟨p, 0, none⟩)] w fun e w' => e = .returned (.bool true) ∧ IsMark w' mk x ∧ SysD am cc t2 qs B w' a c s' (ps.set i (p, who, false)) ∧ Below B w w' ∧ Fr (fun k => k = mk ∨ TouchD c cc w k) w w') :
    Calls Try.prog 17 #[.pointer (some ⟨m, 0, none⟩), .pointer (some ⟨p, 0, none⟩)] w fun e w' => e = .returned (.bool false) ∧ ShB w' m mk (some ⟨pu, 0, none⟩) 1 lost ∧ IsMark w' mk x ∧ SysD am cc t2 qs B w' a c s' (ps.set i (p, who, false)) ∧ Below B w w' ∧ Fr (fun k => k = m ∨ k = mk ∨ TouchD c cc w k) w w' := by
  have HO := Lib.hid (hs.open_ i hi)
  have HS := Lib.hid hs
  have HBm := Lib.hid hB
  have HX := Lib.hid hx
  have HNE := Lib.hid hne
  have HST := Lib.hid hstep
  have HK := Lib.hid h
  obtain ⟨c0, -⟩ := Hp.blk_cell h 0 rfl
  obtain ⟨c2, -⟩ := Hp.blk_cell h 2 rfl
  clear hs hi hB hx hstep h hne
  go_enter Try.func17, Try.ntmps17
  go_upto_region 8 with (first
    | (go_at_call 47; (refine HO.out.mono ?_; clear HO; rintro e w2 ⟨rfl, rfl⟩))
    | (go_at_call 14; (refine HST.out.mono ?_; clear HST; rintro e w3 ⟨rfl, hM, hS3, hb, hF⟩)))
  have HK3 := Lib.hid (hF.blk HK.out (fun z => z.elim HNE.out ((duo_nt HS.out HK.out (by decide)))))
  have HM := Lib.hid hM
  have HS3 := Lib.hid hS3
  have HB := Lib.hid hb
  have HF : Hid (Fr (fun k => k = m ∨ k = mk ∨ TouchD c cc w2 k) w2 w3) := Lib.hid (fr_wide hF (fun k hk => hk.elim (fun e => .inr (.inl e)) (fun e => .inr (.inr e))))
  clear hM hS3 hb hF HS HK c0 c2
  obtain ⟨c2, d2⟩ := Hp.blk_cell HK3.out 2 rfl
  have HK4 := Lib.hid (Hp.blk_set HK3.out 2 (.int .i64 3))
  have HM4 : Hid (IsMark (w3.setCell ⟨m, 2, none⟩ (.int .i64 3)) mk x) := Lib.hid (((Fr.refl (fun k => k = m) w3).setCell ⟨m, 2, none⟩ (.int .i64 3) (.inl rfl)).blk HM.out (fun e => HNE.out e.symm))
  have hnt := (duo_nt HS3.out HK3.out (by decide))
  have HS4 : Hid (SysD am cc t2 qs B (w3.setCell ⟨m, 2, none⟩ (.int .i64 3)) a c s' (ps.set i (p, who, false))) := Lib.hid (HS3.out.other hnt 2 _)
  replace HB := Lib.hid (HB.out.setCell (p := ⟨m, 2, none⟩) HBm.out (.int .i64 3))
  replace HF := Lib.hid (HF.out.setCell ⟨m, 2, none⟩ (.int .i64 3) (.inl (.inl rfl)))
  clear hnt HK3 HM HS3
  go_upto_region 9 with (fail)
  clear c2 d2
  generalize w3.setCell ⟨m, 2, none⟩ (.int .i64 3) = w4 at HK4 HM4 HS4 HB HF ⊢
  obtain ⟨c0, -⟩ := Hp.blk_cell HK4.out 0 rfl
  obtain ⟨c2, d2⟩ := Hp.blk_cell HK4.out 2 rfl
  have hfr := mark_fresh w4 mk x HM4.out
  rw [HX.out] at hfr
  have HK5 := Lib.hid (Hp.blk_set HK4.out 2 (.int .i64 1))
  obtain ⟨c2', -⟩ := Hp.blk_cell HK5.out 2 rfl
  go_wp2_with (first | (go_at_call 16; (refine hfr.mono ?_; clear hfr; rintro e w5 ⟨rfl, hw⟩; obtain rfl := hw.symm)))
  go_ret
  have hnt := (duo_nt HS4.out HK4.out (by decide))
  exact ⟨rfl, HK5.out, ((Fr.refl (fun k => k = m) w4).setCell ⟨m, 2, none⟩ (.int .i64 1) (.inl rfl)).blk HM4.out (fun e => HNE.out e.symm), HS4.out.other hnt 2 _, HB.out.setCell (p := ⟨m, 2, none⟩) HBm.out _, HF.out.setCell ⟨m, 2, none⟩ _ (.inl (.inl rfl))⟩

set_option maxHeartbeats 2000000 in
set_option maxRecDepth 100000 in
theorem shade_mark_stale {B am cc : Nat} {t2 : AS} {qs : List (Nat × Int × Bool)} {w : World} {a c p : Nat} {s s' : AS} {who : Int} {ps : List (Nat × Int × Bool)} (hs : SysD am cc t2 qs B w a c s ps) (i : Nat) (hi : ps[i]? = some (p, who, true)) (m mk pu : Nat) (hB : B ≤ m) (lost : Bool) (h : ShB w m mk (some ⟨pu, 0, none⟩) 0 lost) (x : MS) (hx : x.fresh = false) (hne : m ≠ mk)
    (hstep : Calls Try.prog 14 #[.pointer (some ⟨mk, 0, none⟩), .pointer (some ⟨p, 0, none⟩)] w fun e w' => e = .returned (.bool true) ∧ IsMark w' mk x ∧ SysD am cc t2 qs B w' a c s' (ps.set i (p, who, false)) ∧ Below B w w' ∧ Fr (fun k => k = mk ∨ TouchD c cc w k) w w') :
    Calls Try.prog 17 #[.pointer (some ⟨m, 0, none⟩), .pointer (some ⟨p, 0, none⟩)] w fun e w' => e = .returned (.bool true) ∧ ShB w' m mk (some ⟨pu, 0, none⟩) 3 lost ∧ IsMark w' mk x ∧ SysD am cc t2 qs B w' a c s' (ps.set i (p, who, false)) ∧ Below B w w' ∧ Fr (fun k => k = m ∨ k = mk ∨ TouchD c cc w k) w w' := by
  have HO := Lib.hid (hs.open_ i hi)
  have HS := Lib.hid hs
  have HBm := Lib.hid hB
  have HX := Lib.hid hx
  have HNE := Lib.hid hne
  have HST := Lib.hid hstep
  have HK := Lib.hid h
  obtain ⟨c0, -⟩ := Hp.blk_cell h 0 rfl
  obtain ⟨c2, -⟩ := Hp.blk_cell h 2 rfl
  clear hs hi hB hx hstep h hne
  go_enter Try.func17, Try.ntmps17
  go_upto_region 8 with (first
    | (go_at_call 47; (refine HO.out.mono ?_; clear HO; rintro e w2 ⟨rfl, rfl⟩))
    | (go_at_call 14; (refine HST.out.mono ?_; clear HST; rintro e w3 ⟨rfl, hM, hS3, hb, hF⟩)))
  have HK3 := Lib.hid (hF.blk HK.out (fun z => z.elim HNE.out ((duo_nt HS.out HK.out (by decide)))))
  have HM := Lib.hid hM
  have HS3 := Lib.hid hS3
  have HB := Lib.hid hb
  have HF : Hid (Fr (fun k => k = m ∨ k = mk ∨ TouchD c cc w2 k) w2 w3) := Lib.hid (fr_wide hF (fun k hk => hk.elim (fun e => .inr (.inl e)) (fun e => .inr (.inr e))))
  clear hM hS3 hb hF HS HK c0 c2
  obtain ⟨c2, d2⟩ := Hp.blk_cell HK3.out 2 rfl
  have HK4 := Lib.hid (Hp.blk_set HK3.out 2 (.int .i64 3))
  have HM4 : Hid (IsMark (w3.setCell ⟨m, 2, none⟩ (.int .i64 3)) mk x) := Lib.hid (((Fr.refl (fun k => k = m) w3).setCell ⟨m, 2, none⟩ (.int .i64 3) (.inl rfl)).blk HM.out (fun e => HNE.out e.symm))
  have hnt := (duo_nt HS3.out HK3.out (by decide))
  have HS4 : Hid (SysD am cc t2 qs B (w3.setCell ⟨m, 2, none⟩ (.int .i64 3)) a c s' (ps.set i (p, who, false))) := Lib.hid (HS3.out.other hnt 2 _)
  replace HB := Lib.hid (HB.out.setCell (p := ⟨m, 2, none⟩) HBm.out (.int .i64 3))
  replace HF := Lib.hid (HF.out.setCell ⟨m, 2, none⟩ (.int .i64 3) (.inl (.inl rfl)))
  clear hnt HK3 HM HS3
  go_upto_region 9 with (fail)
  clear c2 d2
  generalize w3.setCell ⟨m, 2, none⟩ (.int .i64 3) = w4 at HK4 HM4 HS4 HB HF ⊢
  obtain ⟨c0, -⟩ := Hp.blk_cell HK4.out 0 rfl
  obtain ⟨c2, d2⟩ := Hp.blk_cell HK4.out 2 rfl
  have hfr := mark_fresh w4 mk x HM4.out
  rw [HX.out] at hfr
  go_wp2_with (first | (go_at_call 16; (refine hfr.mono ?_; clear hfr; rintro e w5 ⟨rfl, hw⟩; obtain rfl := hw.symm)))
  go_ret
  exact ⟨rfl, HK4.out, HM4.out, HS4.out, HB.out, HF.out⟩

set_option maxHeartbeats 2000000 in
set_option maxRecDepth 100000 in
theorem shade_push_on {B am cc : Nat} {t2 : AS} {qs : List (Nat × Int × Bool)} {w : World} {a c p : Nat} {s s' : AS} {who : Int} {ps : List (Nat × Int × Bool)} (hs : SysD am cc t2 qs B w a c s ps) (i : Nat) (hi : ps[i]? = some (p, who, true)) (m mk pu : Nat) (hB : B ≤ m) (lost : Bool) (h : ShB w m mk (some ⟨pu, 0, none⟩) 1 lost) (x : PS) (y : MS) (hy : IsMark w mk y) (hne : m ≠ mk) (hnp : m ≠ pu) (hmp : mk ≠ pu)
    (hstep : Calls Try.prog 51 #[.pointer (some ⟨pu, 0, none⟩), .pointer (some ⟨p, 0, none⟩)] w fun e w' => e = .returned (.bool false) ∧ IsPush w' pu x ∧ SysD am cc t2 qs B w' a c s' (ps.set i (p, who, false)) ∧ Below B w w' ∧ Fr (fun k => k = pu ∨ TouchD c cc w k) w w') :
    Calls Try.prog 17 #[.pointer (some ⟨m, 0, none⟩), .pointer (some ⟨p, 0, none⟩)] w fun e w' => e = .returned (.bool false) ∧ ShB w' m mk (some ⟨pu, 0, none⟩) 1 lost ∧ IsPush w' pu x ∧ IsMark w' mk y ∧ SysD am cc t2 qs B w' a c s' (ps.set i (p, who, false)) ∧ Below B w w' ∧ Fr (fun k => k = m ∨ k = mk ∨ k = pu ∨ TouchD c cc w k) w w' := by
  have HO := Lib.hid (hs.open_ i hi)
  have HS := Lib.hid hs
  have HBm := Lib.hid hB
  have HNE := Lib.hid hne
  have HNP := Lib.hid hnp
  have HMP := Lib.hid hmp
  have HST := Lib.hid hstep
  have HK := Lib.hid h
  have HY := Lib.hid hy
  obtain ⟨c1, -⟩ := Hp.blk_cell h 1 rfl
  obtain ⟨c2, -⟩ := Hp.blk_cell h 2 rfl
  clear hs hi hB hstep h hne hnp hmp hy
  go_enter Try.func17, Try.ntmps17
  go_upto_region 19 with (first
    | (go_at_call 47; (refine HO.out.mono ?_; clear HO; rintro e w2 ⟨rfl, rfl⟩))
    | (go_at_call 51; (refine HST.out.mono ?_; clear HST; rintro e w3 ⟨rfl, hP, hS3, hb, hF⟩)))
  have HK3 := Lib.hid (hF.blk HK.out (fun z => z.elim HNP.out ((duo_nt HS.out HK.out (by decide)))))
  have HM3 := Lib.hid (hF.blk HY.out (fun z => z.elim HMP.out ((duo_nt HS.out HY.out (by decide)))))
  have HP3 := Lib.hid hP
  have HS3 := Lib.hid hS3
  have HB := Lib.hid hb
  have HF : Hid (Fr (fun k => k = m ∨ k = mk ∨ k = pu ∨ TouchD c cc w2 k) w2 w3) := Lib.hid (fr_wide hF (fun k hk => hk.elim (fun e => .inr (.inr (.inl e))) (fun e => .inr (.inr (.inr e)))))
  clear hP hS3 hb hF HS HK HY c1 c2
  obtain ⟨c2, d2⟩ := Hp.blk_cell HK3.out 2 rfl
  go_wp2_with (fail)
  go_ret
  exact ⟨rfl, HK3.out, HP3.out, HM3.out, HS3.out, HB.out, HF.out⟩

set_option maxHeartbeats 2000000 in
set_option maxRecDepth 100000 in
theorem shade_push_end {B am cc : Nat} {t2 : AS} {qs : List (Nat × Int × Bool)} {w : World} {a c p : Nat} {s s' : AS} {who : Int} {ps : List (Nat × Int × Bool)} (hs : SysD am cc t2 qs B w a c s ps) (i : Nat) (hi : ps[i]? = some (p, who, true)) (m mk pu : Nat) (hB : B ≤ m) (lost : Bool) (h : ShB w m mk (some ⟨pu, 0, none⟩) 1 lost) (x : PS) (y : MS) (hy : IsMark w mk y) (hx : x.full = false) (hne : m ≠ mk) (hnp : m ≠ pu) (hmp : mk ≠ pu)
    (hstep : Calls Try.prog 51 #[.pointer (some ⟨pu, 0, none⟩), .pointer (some ⟨p, 0, none⟩)] w fun e w' => e = .returned (.bool true) ∧ IsPush w' pu x ∧ SysD am cc t2 qs B w' a c s' (ps.set i (p, who, false)) ∧ Below B w w' ∧ Fr (fun k => k = pu ∨ TouchD c cc w k) w w') :
    Calls Try.prog 17 #[.pointer (some ⟨m, 0, none⟩), .pointer (some ⟨p, 0, none⟩)] w fun e w' => e = .returned (.bool true) ∧ ShB w' m mk (some ⟨pu, 0, none⟩) 3 lost ∧ IsPush w' pu x ∧ IsMark w' mk y ∧ SysD am cc t2 qs B w' a c s' (ps.set i (p, who, false)) ∧ Below B w w' ∧ Fr (fun k => k = m ∨ k = mk ∨ k = pu ∨ TouchD c cc w k) w w' := by
  have HO := Lib.hid (hs.open_ i hi)
  have HS := Lib.hid hs
  have HBm := Lib.hid hB
  have HX := Lib.hid hx
  have HNE := Lib.hid hne
  have HNP := Lib.hid hnp
  have HMP := Lib.hid hmp
  have HST := Lib.hid hstep
  have HK := Lib.hid h
  have HY := Lib.hid hy
  obtain ⟨c1, -⟩ := Hp.blk_cell h 1 rfl
  obtain ⟨c2, -⟩ := Hp.blk_cell h 2 rfl
  clear hs hi hB hx hstep h hne hnp hmp hy
  go_enter Try.func17, Try.ntmps17
  go_upto_region 13 with (first
    | (go_at_call 47; (refine HO.out.mono ?_; clear HO; rintro e w2 ⟨rfl, rfl⟩))
    | (go_at_call 51; (refine HST.out.mono ?_; clear HST; rintro e w3 ⟨rfl, hP, hS3, hb, hF⟩)))
  have HK3 := Lib.hid (hF.blk HK.out (fun z => z.elim HNP.out ((duo_nt HS.out HK.out (by decide)))))
  have HM3 := Lib.hid (hF.blk HY.out (fun z => z.elim HMP.out ((duo_nt HS.out HY.out (by decide)))))
  have HP3 := Lib.hid hP
  have HS3 := Lib.hid hS3
  have HB := Lib.hid hb
  have HF : Hid (Fr (fun k => k = m ∨ k = mk ∨ k = pu ∨ TouchD c cc w2 k) w2 w3) := Lib.hid (fr_wide hF (fun k hk => hk.elim (fun e => .inr (.inr (.inl e))) (fun e => .inr (.inr (.inr e)))))
  clear hP hS3 hb hF HS HK HY c1 c2
  obtain ⟨c2, d2⟩ := Hp.blk_cell HK3.out 2 rfl
  obtain ⟨c1, -⟩ := Hp.blk_cell HK3.out 1 rfl
  have HK4 := Lib.hid (Hp.blk_set HK3.out 2 (.int .i64 3))
  have HP4 : Hid (IsPush (w3.setCell ⟨m, 2, none⟩ (.int .i64 3)) pu x) := Lib.hid (((Fr.refl (fun k => k = m) w3).setCell ⟨m, 2, none⟩ (.int .i64 3) (.inl rfl)).blk HP3.out (fun e => HNP.out e.symm))
  have HM4 : Hid (IsMark (w3.setCell ⟨m, 2, none⟩ (.int .i64 3)) mk y) := Lib.hid (((Fr.refl (fun k => k = m) w3).setCell ⟨m, 2, none⟩ (.int .i64 3) (.inl rfl)).blk HM3.out (fun e => HNE.out e.symm))
  have hnt := (duo_nt HS3.out HK3.out (by decide))
  have HS4 : Hid (SysD am cc t2 qs B (w3.setCell ⟨m, 2, none⟩ (.int .i64 3)) a c s' (ps.set i (p, who, false))) := Lib.hid (HS3.out.other hnt 2 _)
  replace HB := Lib.hid (HB.out.setCell (p := ⟨m, 2, none⟩) HBm.out (.int .i64 3))
  replace HF := Lib.hid (HF.out.setCell ⟨m, 2, none⟩ (.int .i64 3) (.inl (.inl rfl)))
  clear hnt HK3 HM3 HP3 HS3 c1
  go_upto_region 14 with (fail)
  clear c2 d2
  generalize w3.setCell ⟨m, 2, none⟩ (.int .i64 3) = w4 at HK4 HM4 HP4 HS4 HB HF ⊢
  obtain ⟨c1, -⟩ := Hp.blk_cell HK4.out 1 rfl
  obtain ⟨c2, d2⟩ := Hp.blk_cell HK4.out 2 rfl
  have hfr := push_full w4 pu x HP4.out
  rw [HX.out] at hfr
  go_wp2_with (first | (go_at_call 52; (refine hfr.mono ?_; clear hfr; rintro e w5 ⟨rfl, hw⟩; obtain rfl := hw.symm)))
  go_ret
  exact ⟨rfl, HK4.out, HP4.out, HM4.out, HS4.out, HB.out, HF.out⟩

set_option maxHeartbeats 2000000 in
set_option maxRecDepth 100000 in
theorem shade_push_full {B am cc : Nat} {t2 : AS} {qs : List (Nat × Int × Bool)} {w : World} {a c p : Nat} {s s' : AS} {who : Int} {ps : List (Nat × Int × Bool)} (hs : SysD am cc t2 qs B w a c s ps) (i : Nat) (hi : ps[i]? = some (p, who, true)) (m mk pu : Nat) (hB : B ≤ m) (lost : Bool) (h : ShB w m mk (some ⟨pu, 0, none⟩) 1 lost) (x : PS) (y : MS) (hy : IsMark w mk y) (hx : x.full = true) (hne : m ≠ mk) (hnp : m ≠ pu) (hmp : mk ≠ pu)
    (hstep : Calls Try.prog 51 #[.pointer (some ⟨pu, 0, none⟩), .pointer (some ⟨p, 0, none⟩)] w fun e w' => e = .returned (.bool true) ∧ IsPush w' pu x ∧ SysD am cc t2 qs B w' a c s' (ps.set i (p, who, false)) ∧ Below B w w' ∧ Fr (fun k => k = pu ∨ TouchD c cc w k) w w') :
    Calls Try.prog 17 #[.pointer (some ⟨m, 0, none⟩), .pointer (some ⟨p, 0, none⟩)] w fun e w' => e = .returned (.bool false) ∧ ShB w' m mk (some ⟨pu, 0, none⟩) 2 lost ∧ IsPush w' pu x ∧ IsMark w' mk y ∧ SysD am cc t2 qs B w' a c s' (ps.set i (p, who, false)) ∧ Below B w w' ∧ Fr (fun k => k = m ∨ k = mk ∨ k = pu ∨ TouchD c cc w k) w w' := by
  have HO := Lib.hid (hs.open_ i hi)
  have HS := Lib.hid hs
  have HBm := Lib.hid hB
  have HX := Lib.hid hx
  have HNE := Lib.hid hne
  have HNP := Lib.hid hnp
  have HMP := Lib.hid hmp
  have HST := Lib.hid hstep
  have HK := Lib.hid h
  have HY := Lib.hid hy
  obtain ⟨c1, -⟩ := Hp.blk_cell h 1 rfl
  obtain ⟨c2, -⟩ := Hp.blk_cell h 2 rfl
  clear hs hi hB hx hstep h hne hnp hmp hy
  go_enter Try.func17, Try.ntmps17
  go_upto_region 13 with (first
    | (go_at_call 47; (refine HO.out.mono ?_; clear HO; rintro e w2 ⟨rfl, rfl⟩))
    | (go_at_call 51; (refine HST.out.mono ?_; clear HST; rintro e w3 ⟨rfl, hP, hS3, hb, hF⟩)))
  have HK3 := Lib.hid (hF.blk HK.out (fun z => z.elim HNP.out ((duo_nt HS.out HK.out (by decide)))))
  have HM3 := Lib.hid (hF.blk HY.out (fun z => z.elim HMP.out ((duo_nt HS.out HY.out (by decide)))))
  have HP3 := Lib.hid hP
  have HS3 := Lib.hid hS3
  have HB := Lib.hid hb
  have HF : Hid (Fr (fun k => k = m ∨ k = mk ∨ k = pu ∨ TouchD c cc w2 k) w2 w3) := Lib.hid (fr_wide hF (fun k hk => hk.elim (fun e => .inr (.inr (.inl e))) (fun e => .inr (.inr (.inr e)))))
  clear hP hS3 hb hF HS HK HY c1 c2
  obtain ⟨c2, d2⟩ := Hp.blk_cell HK3.out 2 rfl
  obtain ⟨c1, -⟩ := Hp.blk_cell HK3.out 1 rfl
  have HK4 := Lib.hid (Hp.blk_set HK3.out 2 (.int .i64 3))
  have HP4 : Hid (IsPush (w3.setCell ⟨m, 2, none⟩ (.int .i64 3)) pu x) := Lib.hid (((Fr.refl (fun k => k = m) w3).setCell ⟨m, 2, none⟩ (.int .i64 3) (.inl rfl)).blk HP3.out (fun e => HNP.out e.symm))
  have HM4 : Hid (IsMark (w3.setCell ⟨m, 2, none⟩ (.int .i64 3)) mk y) := Lib.hid (((Fr.refl (fun k => k = m) w3).setCell ⟨m, 2, none⟩ (.int .i64 3) (.inl rfl)).blk HM3.out (fun e => HNE.out e.symm))
  have hnt := (duo_nt HS3.out HK3.out (by decide))
  have HS4 : Hid (SysD am cc t2 qs B (w3.setCell ⟨m, 2, none⟩ (.int .i64 3)) a c s' (ps.set i (p, who, false))) := Lib.hid (HS3.out.other hnt 2 _)
  replace HB := Lib.hid (HB.out.setCell (p := ⟨m, 2, none⟩) HBm.out (.int .i64 3))
  replace HF := Lib.hid (HF.out.setCell ⟨m, 2, none⟩ (.int .i64 3) (.inl (.inl rfl)))
  clear hnt HK3 HM3 HP3 HS3 c1
  go_upto_region 14 with (fail)
  clear c2 d2
  generalize w3.setCell ⟨m, 2, none⟩ (.int .i64 3) = w4 at HK4 HM4 HP4 HS4 HB HF ⊢
  obtain ⟨c1, -⟩ := Hp.blk_cell HK4.out 1 rfl
  obtain ⟨c2, d2⟩ := Hp.blk_cell HK4.out 2 rfl
  have hfr := push_full w4 pu x HP4.out
  rw [HX.out] at hfr
  have HK5 := Lib.hid (Hp.blk_set HK4.out 2 (.int .i64 2))
  obtain ⟨c2', -⟩ := Hp.blk_cell HK5.out 2 rfl
  go_wp2_with (first | (go_at_call 52; (refine hfr.mono ?_; clear hfr; rintro e w5 ⟨rfl, hw⟩; obtain rfl := hw.symm)))
  go_ret
  have hnt := (duo_nt HS4.out HK4.out (by decide))
  exact ⟨rfl, HK5.out, ((Fr.refl (fun k => k = m) w4).setCell ⟨m, 2, none⟩ (.int .i64 2) (.inl rfl)).blk HP4.out (fun e => HNP.out e.symm), ((Fr.refl (fun k => k = m) w4).setCell ⟨m, 2, none⟩ (.int .i64 2) (.inl rfl)).blk HM4.out (fun e => HNE.out e.symm), HS4.out.other hnt 2 _, HB.out.setCell (p := ⟨m, 2, none⟩) HBm.out _, HF.out.setCell ⟨m, 2, none⟩ _ (.inl (.inl rfl))⟩

set_option maxHeartbeats 2000000 in
set_option maxRecDepth 100000 in
theorem shade_tell {B am cc : Nat} {t2 : AS} {qs : List (Nat × Int × Bool)} {w : World} {a c p : Nat} {s s' : AS} {who : Int} {ps : List (Nat × Int × Bool)} (hs : SysD am cc t2 qs B w a c s ps) (i : Nat) (hi : ps[i]? = some (p, who, true)) (m mk pu : Nat) (hB : B ≤ m) (lost : Bool) (h : ShB w m mk (some ⟨pu, 0, none⟩) 2 lost) (x : PS) (y : MS) (hx : IsPush w pu x) (hy : IsMark w mk y) (hl : s.log.length ≤ 1000000) (hne : m ≠ mk) (hnp : m ≠ pu) (hs' : (s.acc true who 2 4 0 1).1 = s') :
    Calls Try.prog 17 #[.pointer (some ⟨m, 0, none⟩), .pointer (some ⟨p, 0, none⟩)] w fun e w' => e = .returned (.bool true) ∧ ShB w' m mk (some ⟨pu, 0, none⟩) 3 true ∧ IsPush w' pu x ∧ IsMark w' mk y ∧ SysD am cc t2 qs B w' a c s' (ps.set i (p, who, false)) ∧ Below B w w' ∧ Fr (fun k => k = m ∨ k = mk ∨ k = pu ∨ TouchD c cc w k) w w' := by
  have HO := Lib.hid (hs.open_ i hi)
  have HST := hs.store i 4 1 hi hl
  rw [hs'] at HST
  have HS := Lib.hid hs
  have HBm := Lib.hid hB
  have HNE := Lib.hid hne
  have HNP := Lib.hid hnp
  have HK := Lib.hid h
  have HX := Lib.hid hx
  have HY := Lib.hid hy
  obtain ⟨c2, -⟩ := Hp.blk_cell h 2 rfl
  clear hs hi hB hx h hne hnp hy hl hs'
  go_enter Try.func17, Try.ntmps17
  go_upto_region 18 with (first
    | (go_at_call 47; (refine HO.out.mono ?_; clear HO; rintro e w2 ⟨rfl, rfl⟩))
    | (go_at_call 53; (refine HST.mono ?_; clear HST; rintro e w3 ⟨rfl, hD⟩)))
  have HK3 := Lib.hid (hD.fr.blk HK.out ((duo_nt HS.out HK.out (by decide))))
  have HM3 := Lib.hid (hD.fr.blk HY.out ((duo_nt HS.out HY.out (by decide))))
  have HP3 := Lib.hid (hD.fr.blk HX.out ((duo_nt HS.out HX.out (by decide))))
  have HS3 := Lib.hid hD.duo
  have HB := Lib.hid hD.bel
  have HF : Hid (Fr (fun k => k = m ∨ k = mk ∨ k = pu ∨ TouchD c cc w2 k) w2 w3) := Lib.hid (fr_wide hD.fr (fun k hk => .inr (.inr (.inr hk))))
  clear hD HS HK HY HX c2
  obtain ⟨c2, d2⟩ := Hp.blk_cell HK3.out 2 rfl
  obtain ⟨c3, d3⟩ := Hp.blk_cell HK3.out 3 rfl
  have HK4 := Lib.hid (Hp.blk_set HK3.out 3 (.bool true))
  obtain ⟨c2', d2'⟩ := Hp.blk_cell HK4.out 2 rfl
  have HK5 := Lib.hid (Hp.blk_set HK4.out 2 (.int .i64 3))
  obtain ⟨c2'', d2''⟩ := Hp.blk_cell HK5.out 2 rfl
  go_wp2_with (fail)
  go_ret
  have hnt := (duo_nt HS3.out HK3.out (by decide))
  have fr2 := ((Fr.refl (fun k => k = m) w3).setCell ⟨m, 3, none⟩ (.bool true) (.inl rfl)).setCell ⟨m, 2, none⟩ (.int .i64 3) (.inl rfl)
  exact ⟨rfl, HK5.out, fr2.blk HP3.out (fun e => HNP.out e.symm), fr2.blk HM3.out (fun e => HNE.out e.symm), HS3.out.fr fr2 (fun k _ e => by subst e; exact hnt), (HB.out.setCell (p := ⟨m, 3, none⟩) HBm.out _).setCell (p := ⟨m, 2, none⟩) HBm.out _, (HF.out.setCell ⟨m, 3, none⟩ _ (.inl (.inl rfl))).setCell ⟨m, 2, none⟩ _ (.inl (.inl rfl))⟩

set_option maxHeartbeats 2000000 in
theorem shade_step {B am cc : Nat} {t2 : AS} {qs : List (Nat × Int × Bool)} {w : World} {a c p : Nat} {s : AS} {who : Int} {ps : List (Nat × Int × Bool)} (hs : SysD am cc t2 qs B w a c s ps) (i : Nat) (hi : ps[i]? = some (p, who, true)) {m mk pu : Nat} {x : SS} (hx : IsShade w m mk pu x) (hB : B ≤ m ∧ B ≤ mk ∧ B ≤ pu) (hok : x.ok) (h3 : x.at_ ≠ 3) {L : Pl} (hL : PlOk L x)
    (hS : x.at_ = 1 → x.pat = 2 → layout_Plan_Slot.f x.P x.T x.R x.t x.tl = some (L.qS x.tl)) (hl : s.log.length ≤ 1000000) :
    Calls Try.prog 17 #[.pointer (some ⟨m, 0, none⟩), .pointer (some ⟨p, 0, none⟩)] w fun e w' => e = .returned (.bool (decide ((shStep L who s x).2.at_ = 3))) ∧ IsShade w' m mk pu (shStep L who s x).2 ∧ SysD am cc t2 qs B w' a c (shStep L who s x).1 (ps.set i (p, who, false)) ∧ Below B w w' ∧ Fr (fun k => k = m ∨ k = mk ∨ k = pu ∨ TouchD c cc w k) w w' := by
  obtain ⟨P, T, R, t, ref, at_, lost, done, fresh, pat, hd, tl, full⟩ := x
  obtain ⟨⟨pg, hp, hq⟩, hb0, hT, hH⟩ := hL
  have hne := hx.ne
  obtain ⟨hb, hm, hpu⟩ := hx
  have hpu' : IsPush w pu ⟨P, T, R, t, ref, pat, hd, tl, full⟩ := hpu
  unfold SS.ok at hok
  simp only at hok h3 hS hp hq hT hH hb
  have hnt := IsShade.freeD ⟨hb, hm, hpu⟩ hs
  have wide : ∀ {w' : World}, Fr (fun k => k = m ∨ k = mk ∨ TouchD c cc w k) w w' → Fr (fun k => k = m ∨ k = mk ∨ k = pu ∨ TouchD c cc w k) w w' := fun h => fr_wide h fun k hk => hk.elim .inl fun hk => hk.elim (fun e => .inr (.inl e)) fun e => .inr (.inr (.inr e))
  have keep : ∀ {w' : World}, Fr (fun k => k = m ∨ k = mk ∨ TouchD c cc w k) w w' → IsPush w' pu ⟨P, T, R, t, ref, pat, hd, tl, full⟩ := fun h => h.blk hpu' fun hk => hk.elim (fun e => hne.2.1 e.symm) fun hk => hk.elim (fun e => hne.2.2 e.symm) hnt.2.2
  rcases hok with ⟨rfl, rfl, rfl, rfl⟩ | ⟨rfl, rfl, hpat⟩ | rfl | rfl
  · have hst := mark_step_go (fr := fresh) hs i hi mk hm hB.2.1 hp hb0 hq hl
    unfold shStep shMark
    rw [if_pos rfl]
    cases hz : bitIn (s.acc true who 5 L.q 0 (bitOf L.b)).2 L.b with
    | true =>
      have hst' : Calls Try.prog 14 #[.pointer (some ⟨mk, 0, none⟩), .pointer (some ⟨p, 0, none⟩)] w fun e w' => e = .returned (.bool true) ∧ IsMark w' mk ⟨P, T, R, ref, true, true⟩ ∧ SysD am cc t2 qs B w' a c (s.acc true who 5 L.q 0 (bitOf L.b)).1 (ps.set i (p, who, false)) ∧ Below B w w' ∧ Fr (fun k => k = mk ∨ TouchD c cc w k) w w' := by rw [hz] at hst; exact hst
      refine (shade_mark_fresh hs i hi m mk pu hB.1 lost hb _ rfl hne.1 hst').mono ?_
      rintro e w' ⟨rfl, h1, h2, h3, h4, h5⟩
      exact ⟨rfl, ⟨h1, h2, keep h5⟩, h3, h4, wide h5⟩
    | false =>
      have hst' : Calls Try.prog 14 #[.pointer (some ⟨mk, 0, none⟩), .pointer (some ⟨p, 0, none⟩)] w fun e w' => e = .returned (.bool true) ∧ IsMark w' mk ⟨P, T, R, ref, true, false⟩ ∧ SysD am cc t2 qs B w' a c (s.acc true who 5 L.q 0 (bitOf L.b)).1 (ps.set i (p, who, false)) ∧ Below B w w' ∧ Fr (fun k => k = mk ∨ TouchD c cc w k) w w' := by rw [hz] at hst; exact hst
      refine (shade_mark_stale hs i hi m mk pu hB.1 lost hb _ rfl hne.1 hst').mono ?_
      rintro e w' ⟨rfl, h1, h2, h3, h4, h5⟩
      exact ⟨rfl, ⟨h1, h2, keep h5⟩, h3, h4, wide h5⟩
  · have hm' : IsMark w mk ⟨P, T, R, ref, done, fresh⟩ := hm
    unfold shStep
    rw [if_neg (by simp), if_pos rfl]
    unfold shPush
    rcases hpat with rfl | rfl | rfl | rfl
    · rw [if_pos rfl]
      refine (shade_push_on hs i hi m mk pu hB.1 lost hb _ _ hm' hne.1 hne.2.1 hne.2.2 (push_step0 hs i hi pu hpu' hB.2.2 hT hl)).mono ?_
      rintro e w' ⟨rfl, h1, h2, h3, h4, h5, h6⟩
      exact ⟨rfl, ⟨h1, h3, h2⟩, h4, h5, h6⟩
    · rw [if_neg (by simp), if_pos rfl]
      by_cases hz : IntKind.u64.wrap R ≤ IntKind.u64.wrap (tl - (s.acc true who 1 L.qH 0 0).2)
      · rw [if_pos hz]
        refine (shade_push_full hs i hi m mk pu hB.1 lost hb _ _ hm' rfl hne.1 hne.2.1 hne.2.2 (push_step1full hs i hi pu hpu' hB.2.2 hH hl hz)).mono ?_
        rintro e w' ⟨rfl, h1, h2, h3, h4, h5, h6⟩
        exact ⟨rfl, ⟨h1, h3, h2⟩, h4, h5, h6⟩
      · rw [if_neg hz]
        refine (shade_push_on hs i hi m mk pu hB.1 lost hb _ _ hm' hne.1 hne.2.1 hne.2.2 (push_step1room hs i hi pu hpu' hB.2.2 hH hl hz)).mono ?_
        rintro e w' ⟨rfl, h1, h2, h3, h4, h5, h6⟩
        exact ⟨rfl, ⟨h1, h3, h2⟩, h4, h5, h6⟩
    · rw [if_neg (by simp), if_neg (by simp), if_pos rfl]
      refine (shade_push_on hs i hi m mk pu hB.1 lost hb _ _ hm' hne.1 hne.2.1 hne.2.2 (push_step2 hs i hi pu hpu' hB.2.2 (hS rfl rfl) hl)).mono ?_
      rintro e w' ⟨rfl, h1, h2, h3, h4, h5, h6⟩
      exact ⟨rfl, ⟨h1, h3, h2⟩, h4, h5, h6⟩
    · rw [if_neg (by simp), if_neg (by simp), if_neg (by simp)]
      refine (shade_push_end hs i hi m mk pu hB.1 lost hb _ _ hm' rfl hne.1 hne.2.1 hne.2.2 (push_step3 hs i hi pu hpu' hB.2.2 hT hl)).mono ?_
      rintro e w' ⟨rfl, h1, h2, h3, h4, h5, h6⟩
      exact ⟨rfl, ⟨h1, h3, h2⟩, h4, h5, h6⟩
  · have hm' : IsMark w mk ⟨P, T, R, ref, done, fresh⟩ := hm
    unfold shStep
    rw [if_neg (by simp), if_neg (by simp), if_pos rfl]
    refine (shade_tell hs i hi m mk pu hB.1 lost hb _ _ hpu' hm' hl hne.1 hne.2.1 rfl).mono ?_
    rintro e w' ⟨rfl, h1, h2, h3, h4, h5, h6⟩
    exact ⟨rfl, ⟨h1, h3, h2⟩, h4, h5, h6⟩
  · exact absurd rfl h3
end Go.Proofs.Ytcnledehnefldaa.Dd
